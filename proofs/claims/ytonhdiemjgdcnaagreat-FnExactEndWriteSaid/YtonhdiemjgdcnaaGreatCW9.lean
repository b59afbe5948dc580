import Derived.Test.YtonhdiemjgdcnaaGreatCW8
set_option maxHeartbeats 64000000
set_option maxRecDepth 100000
set_option linter.unusedVariables false
set_option linter.unusedSimpArgs false
namespace Go.Proofs
theorem zq36{P Q0 Q1 Q2 Q3:Prop}(q0:Q0)(q1:Q1)(q2:Q2)(q3:Q3)(h:Q0→Q1→Q2→Q3→P:=by intro q0 q1 q2 q3;repeat (first|(with_reducible first|exact HB.1|apply zo|apply zO|apply zR|refine zZ ?_ q0|refine zZ ?_ q1|refine zZ ?_ q2|refine zZ ?_ q3)|exact HB.1)):P:=h q0 q1 q2 q3
theorem zq103{P:Prop}(h:P:=by rintro w' ⟨s0,s1,s2,s3,s4,s5,s6,s7⟩;go_simp;with_reducible rfl):P:=h
theorem zq131{P:Prop}(h:P:=by simp only [List.append_assoc,List.nil_append,List.append_nil]):P:=h
end Go.Proofs
namespace Go.Proofs.YtonhdiemjgdcnaaGreat.PFnExactGivePage
open Go.RowKit Go.Proofs.YtonhdiemjgdcnaaGreatW.PrintWords Go.Proofs.YtonhdiemjgdcnaaGreatW.PrintLast Go.Proofs.YtonhdiemjgdcnaaGreatW.PrintMore
attribute [local go_sem] zma zla zwa zxa zba zca zoa zna
def cloneStore.T5:Bool×List (List Nat×List Nat):=(true,[([],[]),([],[]),([1],[1]),([],[]),([3],[3]),([4],[4]),([2,5],[2,5]),([6],[6]),([0,7,5],[0,7]),([8,8,0,1,2,3,4,5,6,7,8],[0,8])])
def cloneStore.B5:List Nat:=[0,0,2,0,8,24,62,126,255,511]
theorem cloneStore.ok5_1:regB (zFa Tryz.f68 5) cloneStore.T5 cloneStore.B5 [] [.p 0,.p 1,.t 2,.p 3,.t 4,.e 5,.p 6,.e 7,.e 8,.p 9]=true:=zq13
def cloneStore.T7:Bool×List (List Nat×List Nat):=(true,[([],[]),([0],[0]),([1],[1]),([],[]),([3],[3]),([4,2],[4]),([],[]),([],[]),([7],[7]),([8,5],[8]),([0,1,2,3,4,7,8],[]),([10,2,9,0,1,2,3,4,7,8],[2,10]),([0,1,2,3,4,5,7,8,10,11],[]),([12,5,11,0,1,2,3,4,5,7,8,10,11],[5,12]),([0,1,2,3,4,5,6,7,8,10,11,12,13],[]),([14,6,13,0,1,2,3,4,5,6,7,8,10,11,12,13],[6,14]),([0,1,2,3,4,5,6,7,8,9,10,11,12,13,14,15],[]),([16,9,15,0,1,2,3,4,5,6,7,8,9,10,11,12,13,14,15],[9,16])])
def cloneStore.B7:List Nat:=[0,1,3,0,8,31,0,0,128,447,415,1983,4031,8127,16383,32767,65535,131071]
theorem cloneStore.ok7_2:regB (zFa Tryz.f68 7) cloneStore.T7 cloneStore.B7 [11,13,15,17] [.p 0,.t 1,.p 3,.t 4,.p 6,.p 7,.t 8,.e 2,.p 10,.e 5,.e 9,.l 11,.p 12,.l 13,.p 14,.l 15,.p 16,.l 17]=true:=zq13
theorem cloneStore_o (k:Nat) (a0:List ByteArray) (a1:List S110) (x:S40) (rs:List S135) (y:S40) (l0:List ByteArray) (l1:List S110) (l2:Int) (l3 l4 l5:List Int) (n:Int) (bw bf:Bool) {cs:List Value} (w:World) (h:kStore.K w ((a0,a1),x,rs,(y,(l0,l1,l2,l3,l4,l5),n),bw,bf) cs) (f1:impl_cloneDisk.f a0 a1=some (a0,a1)) (f2:impl_cloneMeta.f k x.f0 x.f1 x.f2 x.f3=some (x.f0,x.f1,x.f2,x.f3)) (f3:∀r∈rs,impl_cloneMeta.f k r.f1.f0 r.f1.f1 r.f1.f2 r.f1.f3=some (r.f1.f0,r.f1.f1,r.f1.f2,r.f1.f3)) (f4:impl_cloneMeta.f k y.f0 y.f1 y.f2 y.f3=some (y.f0,y.f1,y.f2,y.f3)) (f5:((l0.length≤2000000∧l1.length≤2000000)∧l3.length≤2000000∧l4.length≤2000000∧l5.length≤2000000)) (hl:rs.length≤2000000):
  Calls Tryz.prog 68 #[.agg cs.toArray] w fun e w'=>∃ds:List Value,e= .returned (.agg ds.toArray)∧kStore.M w' w.heap.size (Fr w w') ((a0,a1),x,rs,(y,(l0,l1,l2,l3,l4,l5),n),bw,bf) ds∧Below w.heap.size w w':=by
 obtain ⟨cD,_,rfl,hD,cM,_,rfl,hM,cR,_,rfl,hR,cT,_,rfl,hT,cB,cF,rfl,hW,hF⟩:=h
 obtain rfl:cB=[.bool bw]:=hW
 obtain rfl:cF=[.bool bf]:=hF
 obtain ⟨AR,ccR,rfl,mR,rR⟩:=hR
 obtain ⟨vR,hvR⟩:∃v,v=Value.slice AR rs.length ccR:=⟨_,rfl⟩
 obtain ⟨cs,hcs⟩:∃cs,cs=cD++(cM++([vR]++(cT++([.bool bw]++[.bool bf])))):=⟨_,rfl⟩
 rw [←hvR,←hcs]
 have E:=zz hcs
 have KD:=zz hD
 have KM:=zz hM
 have KR:=zz rR
 have KT:=zz hT
 have VR:=zz hvR
 have ND:=zz (show cD.length=2 from kDisk.K_len hD)
 have NM:=zz (show cM.length=4 from k40.K_len hM)
 have NT:=zz (show cT.length=11 from kTxn.K_len hT)
 have F1:=zz f1
 have F2:=zz f2
 have F3:=zz f3
 have F4:=zz f4
 have F5:=zz f5
 have FL:=zz hl
 clear hD hM hT f1 f2 f3 f4 f5 hl hcs hvR mR rR
 have BA:=zz (zh (zqa w (.cells cs.toArray 67)) (.cells [.slice none 0 0,.slice none 0 0,.int .i64 0,.int .i64 0,.int .i64 0,.slice none 0 0,.slice none 0 0,.int .i64 0,.int .i64 0,.int .i64 0,.slice none 0 0,.slice none 0 0,.slice none 0 0,.int .i64 0,.slice none 0 0,.slice none 0 0,.slice none 0 0,.int .i64 0,.bool false,.bool false].toArray 67))
 have BR:=zz (show ((w.alloc (.cells cs.toArray 67)).alloc (.cells [.slice none 0 0,.slice none 0 0,.int .i64 0,.int .i64 0,.int .i64 0,.slice none 0 0,.slice none 0 0,.int .i64 0,.int .i64 0,.int .i64 0,.slice none 0 0,.slice none 0 0,.slice none 0 0,.int .i64 0,.slice none 0 0,.slice none 0 0,.slice none 0 0,.int .i64 0,.bool false,.bool false].toArray 67)).heap[w.heap.size+1]?=some (.cells ([.slice none 0 0,.slice none 0 0,.int .i64 0,.int .i64 0,.int .i64 0,.slice none 0 0,.slice none 0 0,.int .i64 0,.int .i64 0,.int .i64 0,.slice none 0 0,.slice none 0 0,.slice none 0 0,.int .i64 0,.slice none 0 0,.slice none 0 0,.slice none 0 0,.int .i64 0,.bool false,.bool false]:List Value).toArray 67 (0,0)) from (by have:=zqa (w.alloc (.cells cs.toArray 67)) (.cells ([.slice none 0 0,.slice none 0 0,.int .i64 0,.int .i64 0,.int .i64 0,.slice none 0 0,.slice none 0 0,.int .i64 0,.int .i64 0,.int .i64 0,.slice none 0 0,.slice none 0 0,.slice none 0 0,.int .i64 0,.slice none 0 0,.slice none 0 0,.slice none 0 0,.int .i64 0,.bool false,.bool false]:List Value).toArray 67);rwa [show (w.alloc (.cells cs.toArray 67)).heap.size=w.heap.size+1 from by simp] at this))
 have HB:=zz (zo (zo (z1a w.heap.size w) (.cells cs.toArray 67)) (.cells [.slice none 0 0,.slice none 0 0,.int .i64 0,.int .i64 0,.int .i64 0,.slice none 0 0,.slice none 0 0,.int .i64 0,.int .i64 0,.int .i64 0,.slice none 0 0,.slice none 0 0,.slice none 0 0,.int .i64 0,.slice none 0 0,.slice none 0 0,.slice none 0 0,.int .i64 0,.bool false,.bool false].toArray 67))
 have HZ:=zz (show w.heap.size+1<((w.alloc (.cells cs.toArray 67)).alloc (.cells [.slice none 0 0,.slice none 0 0,.int .i64 0,.int .i64 0,.int .i64 0,.slice none 0 0,.slice none 0 0,.int .i64 0,.int .i64 0,.int .i64 0,.slice none 0 0,.slice none 0 0,.slice none 0 0,.int .i64 0,.slice none 0 0,.slice none 0 0,.slice none 0 0,.int .i64 0,.bool false,.bool false].toArray 67)).heap.size from zP BR.1)
 go_enter Tryz.func68,Tryz.ntmps68
 go_wp2_with ((with_reducible refine zd (N:=7) rfl ?_);refine zy rfl 65 _ rfl w.heap.size 6 (cD++cM) vR (cT++([.bool bw]++[.bool bf])) rfl BA.1 (by rw [E.1];simp only [List.append_assoc,List.nil_append,List.append_nil]) (by simp only [List.length_append,List.length_cons,List.length_nil,ND.1,NM.1]) Tryz.underlying65 rfl ?_;rw [VR.1])
 go_loopg [3,9] (rs.length+1) (fun kq v3 v9 w'=>∃(i:Nat) (v:Value),v3=v∧v9= .int .i64 (i:Int)∧Z0 (kq+i=rs.length+1)∧Z0 (i≤rs.length)∧Z0 (Kd.S k135 135 w' w.heap.size (fun k=>w.heap.size+1<k) v (rs.take i))∧Z0 (w'.heap[w.heap.size]?=some (.cells cs.toArray 67 (0,0)))∧Z0 (w'.heap[w.heap.size+1]?=some (.cells ([.slice none 0 0,.slice none 0 0,.int .i64 0,.int .i64 0,.int .i64 0,.slice none 0 0,.slice none 0 0,.int .i64 0,.int .i64 0,.int .i64 0,.slice none 0 0,.slice none 0 0,.slice none 0 0,.int .i64 0,.slice none 0 0,.slice none 0 0,.slice none 0 0,.int .i64 0,.bool false,.bool false]:List Value).toArray 67 (0,0)))∧Z0 (Below w.heap.size w w')∧Z0 (w.heap.size+1<w'.heap.size))
 case atStart=>exact ⟨0,.slice none 0 0,rfl,rfl,⟨zq9⟩,⟨z0b _⟩,⟨Kd.S_nil _ _ _ _ _⟩,BA,BR,HB,HZ⟩
 case round=>
  clear BA BR HB HZ
  obtain ⟨i,v,rfl,rfl,HQ,HI,HO,BA,BR,HB,HZ⟩:=hrel
  obtain ⟨xs,hxs⟩:∃xs,xs=rs.take i:=⟨_,rfl⟩
  rw [←hxs] at HO
  have HX:=zz hxs
  clear hxs
  obtain ⟨Av,cv,rfl⟩:=Kd.S_slice HO.1
  by_cases hlt:i<rs.length
  ·have c1:decide ((i:Int)<(rs.length:Int))=true:=z6 zq9
   have c0:decide ((0:Int)≤(i:Int))=true:=z6 zq9
   cases gk with
   |zero=>exact absurd HQ.1 zq9
   |succ k1=>
    obtain ⟨ad,A4,c4,hA,z0,z1,z2,z3,z4,hl4,hC4⟩:=zgc KR.1 (i:Int) zq9 zq9
    subst hA
    obtain ⟨el,hel⟩:∃el,el=zE rs (i:Int):=⟨_,rfl⟩
    have hel2:el=rs[i]:=by rw [hel];simp [zE,List.getD_eq_getElem?_getD,List.getElem?_eq_getElem hlt]
    rw [←hel] at z0 z1 z2 z3 z4 hl4 hC4
    replace z0:=(HB.1.cell (z0a w _ z0)).trans z0
    replace z1:=(HB.1.cell (z0a w _ z1)).trans z1
    replace z2:=(HB.1.cell (z0a w _ z2)).trans z2
    replace z3:=(HB.1.cell (z0a w _ z3)).trans z3
    replace z4:=(HB.1.cell (z0a w _ z4)).trans z4
    simp only [Int.toNat_natCast] at z0 z1 z2 z3 z4
    have HE:=zz hel2
    have FE:=zz (show impl_cloneMeta.f k el.f1.f0 el.f1.f1 el.f1.f2 el.f1.f3=some (el.f1.f0,el.f1.f1,el.f1.f2,el.f1.f3) from F3.1 el (by rw [hel2];exact List.getElem_mem hlt))
    have KE:=zz (show k40.K w el.f1 [.int .i64 el.f1.f0,.int .i64 el.f1.f1,.int .i64 el.f1.f2,.slice A4 el.f1.f3.length c4] from k40_mk w el.f1 hl4 hC4)
    clear hel hel2 hl4 hC4
    have OKV:=zz (show ∀k,(Value.slice Av xs.length cv).ownBlock=some k→w.heap.size+1<k from HO.1.choose_spec.1)
    go_upto_region 5 with ((with_reducible refine zm (t:=135) (p:=5) rfl ?_);refine zn rfl 135 _ _ rfl rfl wr.heap.size 0 [.int .i64 el.f0,.int .i64 el.f1.f0,.int .i64 el.f1.f1,.int .i64 el.f1.f2,.slice A4 el.f1.f3.length c4] [] [.int .i64 0,.int .i64 0,.int .i64 0,.int .i64 0,.slice none 0 0] [] rfl rfl (zqa wr (.cells [.int .i64 0,.int .i64 0,.int .i64 0,.int .i64 0,.slice none 0 0].toArray 135)) rfl rfl rfl zq13 (fun v hv=>by simp only [List.mem_cons,List.not_mem_nil,or_false] at hv;rcases hv with rfl|rfl|rfl|rfl|rfl<;>rfl) ?_;intro W5 hp hn;have B5:=zz hn;have P5:=zz hp;clear hp hn)
    have hb5:=P5.1.below wr (z3a _) (zo (z1a _ _) _)
    have L5:=zz (Kd.S_lt HO.1)
    have LL:=zz (show wr.heap.size<W5.heap.size from zP B5.1)
    have HO5:=zz (Kd.S_below HO.1 hb5)
    have BA5:=zz (zg BA.1 hb5)
    have BR5:=zz (zg BR.1 hb5)
    have HB5:=zz (ze HB.1 hb5)
    have HZ5:=zz (show w.heap.size+1<W5.heap.size by have:=HZ.1;have:=LL.1;omega)
    clear HO BA BR HB P5 hb5 z0 z1 z2 z3 z4
    have BA:=zz (zg BA5.1 (z1a W5.heap.size W5).drew)
    have BR:=zz (zg BR5.1 (z1a W5.heap.size W5).drew)
    have HB:=zz (ze HB5.1 (z1a W5.heap.size W5).drew)
    have HO:=zz (Kd.S_below HO5.1 (z1a W5.heap.size W5).drew)
    have B:=zz (zg B5.1 (z1a W5.heap.size W5).drew)
    have HZ6:=zz (z4a HZ5.1 (z1a W5.heap.size W5).drew.size)
    have LM:=zz (z4a LL.1 (z1a W5.heap.size W5).drew.size)
    clear BA5 BR5 HB5 HO5 B5 HZ5 LL
    refine zMa cloneStore.ok5_1 (S:=fun w'=>w'.heap[wr.heap.size]?=some (.cells ([]++([.int .i64 el.f0,.int .i64 el.f1.f0,.int .i64 el.f1.f1,.int .i64 el.f1.f2,.slice A4 el.f1.f3.length c4]++[]):List Value).toArray 135 (0,0))∧True) zq13 (fun _ _ _ _ h=>h) ⟨B.1,trivial⟩ (fun hHeld=> ?_)
    generalize W5.drew=wd at BA BR HB HO B HZ6 LM hHeld ⊢
    iterate 2 (refine zpa (v:= ?_) (a':= ?_) rfl rfl (Or.inl ⟨zq22,zq12⟩) zq3 ?_)
    refine zIb (a':= ?a1_4) rfl rfl zq22 3 _ rfl wr.heap.size 0 [] (.int .i64 el.f0) [.int .i64 el.f1.f0,.int .i64 el.f1.f1,.int .i64 el.f1.f2,.slice A4 el.f1.f3.length c4] _ rfl (fun w' hs=>hs.1) (rfl) (rfl) Tryz.underlying3 rfl ?hp4 ?hk4
    case hp4=>(show Act.put _ (some _) _=_;simp only [Act.put,List.setIfInBounds_toArray,List.set_cons_zero,List.set_cons_succ,zKa,i32_w];try rfl)
    (refine zpa (v:= ?_) (a':= ?_) rfl rfl (Or.inl ⟨zq22,zq12⟩) zq3 ?_)
    refine zHb (a':= ?a1_5) rfl rfl zq22 40 _ rfl wr.heap.size 1 [.int .i64 el.f0] [.int .i64 el.f1.f0,.int .i64 el.f1.f1,.int .i64 el.f1.f2,.slice A4 el.f1.f3.length c4] [] _ rfl (fun w' hs=>hs.1) (rfl) (rfl) Tryz.underlying40 rfl zq13 ?hp5 ?hk5
    case hp5=>(show Act.put _ (some _) _=_;simp only [Act.put,List.setIfInBounds_toArray,List.set_cons_zero,List.set_cons_succ,zKa,i32_w];try rfl)
    refine zva rfl rfl Tryz.func44 zq13 rfl #[.agg #[.int .i64 el.f1.f0,.int .i64 el.f1.f1,.int .i64 el.f1.f2,.slice A4 el.f1.f3.length c4]] zq22 rfl zq14 ?_
    with_reducible refine (zdb k el.f1 el.f1 _ (k40.K_below HB.1 KE.1) FE.1).mono ?_
    rintro e wc ⟨dM,rfl,M,hb⟩
    have HF:=zz (Kd.S_mono (Kd.S_below (Kd.S_bound HO.1) hb) (ok':=fun k=>w.heap.size+1<k∧¬(wd.heap.size≤k)) (fun k hk=>⟨hk.1,by have:=hk.2.2.1;omega⟩))
    have hsz:=zz hb.size
    replace BA:=zz (zg BA.1 hb)
    replace BR:=zz (zg BR.1 hb)
    replace HB:=zz (ze HB.1 hb)
    replace B:=zz (zg B.1 hb)
    obtain ⟨A3,c3,rfl,-⟩:=zEa (k40.K_of_M M)
    obtain ⟨v3,hv3,hS3⟩:=k40_openM M
    have hv4:v3= .slice A3 el.f1.f3.length c3:=by injection hv3 with _ h;injection h with _ h;injection h with _ h;injection h with h _;exact h.symm
    subst hv4
    have ME:=zz (Kd.S_lower (base':=w.heap.size) (Kd.S_mono hS3 (ok':=fun k=>wd.heap.size≤k) (fun k hk=>hk.1)) (zq51 HZ6.1))
    clear M hb hv3 hS3 HO
    refine ⟨_,rfl,⟨B.1,trivial⟩,(fun hHeld=> ?_)⟩
    refine zha (a':= ?_) zq3 ?_
    (refine zpa (v:= ?_) (a':= ?_) rfl rfl (Or.inl ⟨zq22,zq12⟩) zq3 ?_)
    refine seq_e rfl rfl (fun K hK=> ?_)
    refine value_ (w1:= ?_) (v:= ?_) zq22 rfl ?_ ?_
    rotate_left 2
    ·go_simp
     constructor
     ·rfl
     ·rfl
    refine hK.out _ _ ⟨(zh B.1 _),trivial⟩ (fun hHeld=> ?_)
    clear hK K
    refine zha (a':= ?_) zq3 ?_
    refine seq_e rfl rfl (fun K hK=> ?_)
    refine Kd.S_append_step k135 (w0:=w) (W:=wc) w.heap.size zq22 (.tmp 13) (.tmp 20) 65 135 (.agg #[.int .i64 0,.int .i64 0,.int .i64 0,.int .i64 0,.slice none 0 0]) 56 rfl Tryz.underlying65 info135 rfl zq31 zq9 (.slice Av xs.length cv) xs el [.int .i64 el.f0,.int .i64 el.f1.f0,.int .i64 el.f1.f1,.int .i64 el.f1.f2,.slice A3 el.f1.f3.length c3] (fun k=>w.heap.size+1<k) (fun k=>wd.heap.size≤k) rfl rfl ?aM ?aP ?aF HF.1 HB.1 ?aS ?aL ?_
    (case aM=>exact k135_mkM _ _ _ el ME.1)
    (case aP=>exact (fun k h=>⟨zq51 HZ6.1,fun e=>by have:=L5.1 k e.symm;have:=LM.1;omega⟩))
    (case aF=>exact (fun k h=>by have:=HZ6.1;have:=hsz.out;omega))
    (case aS=>exact HB.1.size)
    (case aL=>have:=FL.1;have h2:=List.length_take_le i rs;rw [←HX.1] at h2;omega)
    intro va wa ho hb hg hat
    have B_:=zz (zK B.1 hg (fun e=>Nat.lt_irrefl _ (L5.1 _ e.symm)))
    have BA_:=zz (zK BA.1 hg (fun e=>by have:=L5.1 _ e.symm;have h2:=OKV.1 _ e.symm;omega))
    have BR_:=zz (zK BR.1 hg (fun e=>by have h2:=OKV.1 _ e.symm;omega))
    have HO:=zz ho
    have HB_:=zz hb
    clear BA BR HB B ho hb hg hat
    refine hK.out _ _ ⟨B_.1,trivial⟩ (fun hHeld=> ?_)
    clear hK K
    refine zha (a':= ?_) zq3 ?_
    (refine zpa (v:= ?_) (a':= ?_) rfl rfl (Or.inl ⟨zq22,zq12⟩) zq3 ?_)
    refine zZa ?_
    clear hHeld
    have hsz2:=HB_.1.size
    go_wp2
    go_roundg k1
    case measure=>omega
    case rel=>exact ⟨i+1,_,rfl,by rw [show wrap64 ((i:Int)+1)=((i+1:Nat):Int) by unfold wrap64;have:=FL.1;omega],⟨zq115⟩,⟨zq9⟩,⟨by rw [List.take_succ_eq_append_getElem hlt,←HE.1,←HX.1];exact HO.1⟩,BA_,BR_,HB_,⟨by have:=zP BR_.1;omega⟩⟩
  ·have c1:decide ((i:Int)<(rs.length:Int))=false:=z7 zq9
   have hi:i=rs.length:=by have:=HI.1;omega
   subst hi
   have hx:=HX.1.symm
   rw [List.take_length] at hx
   subst hx
   go_upto_region 7 with (fail)
   replace BA:=zz (zg BA.1 (z1a wr.heap.size wr).drew)
   replace BR:=zz (zg BR.1 (z1a wr.heap.size wr).drew)
   replace HB:=zz (ze HB.1 (z1a wr.heap.size wr).drew)
   replace HO:=zz (Kd.S_below HO.1 (z1a wr.heap.size wr).drew)
   replace HZ:=zz (z4a HZ.1 (z1a wr.heap.size wr).drew.size)
   refine zMa cloneStore.ok7_2 (S:=fun w'=>w'.heap[w.heap.size]?=some (.cells cs.toArray 67 (0,0))∧True) zq13 (fun _ _ _ _ h=>h) ⟨BA.1,trivial⟩ (fun hHeld=> ?_)
   generalize wr.drew=wd at BA BR HB HO HZ hHeld ⊢
   have MR:=zz (Kd.S_mono (Kd.S_bound HO.1) (ok':=fun k=>w.heap.size+1<k∧k<wd.heap.size) (fun k hk=>⟨hk.1,hk.2.2.1⟩))
   clear HO
   (refine zpa (v:= ?_) (a':= ?_) rfl rfl (Or.inl ⟨zq22,zq12⟩) zq3 ?_)
   refine zHb (a':= ?a1_6) rfl rfl zq22 37 _ rfl w.heap.size 0 [] cD (cM++([vR]++(cT++([.bool bw]++[.bool bf])))) _ rfl (fun w' hs=>hs.1) (E.1) (rfl) Tryz.underlying37 rfl (by rw [ND.1];kernel_rfl) ?hp6 ?hk6
   case hp6=>(show Act.put _ (some _) _=_;simp only [Act.put,List.setIfInBounds_toArray,List.set_cons_zero,List.set_cons_succ,zKa,i32_w];try rfl)
   (refine zpa (v:= ?_) (a':= ?_) rfl rfl (Or.inl ⟨zq22,zq12⟩) zq3 ?_)
   refine zHb (a':= ?a1_7) rfl rfl zq22 40 _ rfl w.heap.size 2 cD cM ([vR]++(cT++([.bool bw]++[.bool bf]))) _ rfl (fun w' hs=>hs.1) (E.1) (ND.1) Tryz.underlying40 rfl (by rw [NM.1];kernel_rfl) ?hp7 ?hk7
   case hp7=>(show Act.put _ (some _) _=_;simp only [Act.put,List.setIfInBounds_toArray,List.set_cons_zero,List.set_cons_succ,zKa,i32_w];try rfl)
   iterate 2 (refine zpa (v:= ?_) (a':= ?_) rfl rfl (Or.inl ⟨zq22,zq12⟩) zq3 ?_)
   refine zHb (a':= ?a1_8) rfl rfl zq22 46 _ rfl w.heap.size 7 (cD++(cM++[vR])) cT ([.bool bw]++[.bool bf]) _ rfl (fun w' hs=>hs.1) (by rw [E.1];simp only [List.append_assoc,List.nil_append,List.append_nil]) (by simp only [List.length_append,List.length_cons,List.length_nil,ND.1,NM.1]) Tryz.underlying46 rfl (by rw [NT.1];kernel_rfl) ?hp8 ?hk8
   case hp8=>(show Act.put _ (some _) _=_;simp only [Act.put,List.setIfInBounds_toArray,List.set_cons_zero,List.set_cons_succ,zKa,i32_w];try rfl)
   refine zva rfl rfl Tryz.func46 zq13 rfl #[.agg cD.toArray] zq22 rfl zq14 ?_
   with_reducible refine (cloneDisk_o a0 a1 a0 a1 _ (kDisk.K_below HB.1 KD.1) F1.1).mono ?_
   rintro e w1 ⟨dD,rfl,M,hb⟩
   have S_D:=HZ.1
   replace BA:=zz (zg BA.1 hb)
   replace BR:=zz (zg BR.1 hb)
   replace HB:=zz (ze HB.1 hb)
   replace HZ:=zz (z4a HZ.1 hb.size)
   replace MR:=zz (Kd.S_below MR.1 hb)
   have H_D:=hb.size
   have LD:=zz (show dD.length=2 from Kd.K_len _ (Kd.K_of_M _ M))
   have OD:=zz (zU (Kd.K_of_M _ M))
   have MD:=zz M
   clear M hb
   refine ⟨_,rfl,⟨BA.1,trivial⟩,(fun hHeld=> ?_)⟩
   refine zha (a':= ?_) zq3 ?_
   (refine zpa (v:= ?_) (a':= ?_) rfl rfl (Or.inl ⟨zq22,zq12⟩) zq3 ?_)
   refine zva rfl rfl Tryz.func44 zq13 rfl #[.agg cM.toArray] zq22 rfl zq14 ?_
   with_reducible refine (zdb k x x _ (k40.K_below HB.1 KM.1) F2.1).mono ?_
   rintro e w2 ⟨dM,rfl,M,hb⟩
   have S_M:=HZ.1
   replace BA:=zz (zg BA.1 hb)
   replace BR:=zz (zg BR.1 hb)
   replace HB:=zz (ze HB.1 hb)
   replace HZ:=zz (z4a HZ.1 hb.size)
   replace MR:=zz (Kd.S_below MR.1 hb)
   have H_M:=hb.size
   replace MD:=zz (Kd.M_below MD.1 hb)
   have LM:=zz (show dM.length=4 from Kd.K_len _ (Kd.K_of_M _ M))
   have OM:=zz (zU (Kd.K_of_M _ M))
   have MM:=zz M
   clear M hb
   refine ⟨_,rfl,⟨BA.1,trivial⟩,(fun hHeld=> ?_)⟩
   refine zha (a':= ?_) zq3 ?_
   refine zva rfl rfl Tryz.func111 zq13 rfl #[.agg cT.toArray] zq22 rfl zq14 ?_
   with_reducible refine (cloneTxn_w k y l0 l1 l2 l3 l4 l5 n _ (kTxn.K_below HB.1 KT.1) F4.1 F5.1).mono ?_
   rintro e w3 ⟨dT,rfl,M,hb⟩
   have S_T:=HZ.1
   replace BA:=zz (zg BA.1 hb)
   replace BR:=zz (zg BR.1 hb)
   replace HB:=zz (ze HB.1 hb)
   replace HZ:=zz (z4a HZ.1 hb.size)
   replace MR:=zz (Kd.S_below MR.1 hb)
   have H_T:=hb.size
   replace MD:=zz (Kd.M_below MD.1 hb)
   replace MM:=zz (Kd.M_below MM.1 hb)
   have LT:=zz (show dT.length=11 from Kd.K_len _ (Kd.K_of_M _ M))
   have OT:=zz (zU (Kd.K_of_M _ M))
   have MT:=zz M
   clear M hb
   refine ⟨_,rfl,⟨BA.1,trivial⟩,(fun hHeld=> ?_)⟩
   refine zha (a':= ?_) zq3 ?_
   refine zec rfl rfl zq22 37 _ _ rfl w.heap.size 0 dD [] cD (cM++([vR]++(cT++([.bool bw]++[.bool bf])))) rfl rfl BA.1 (E.1) (rfl) (by rw [LD.1,ND.1]) zq128 (OD.1) (fun W hp hn=> ?_)
   have BR_:=zz (zTa BR.1 hp zq9)
   have HB_:=zz (hp.below w (z3a _) HB.1)
   have MR_:=zz (putS MR.1 hp (fun k hk h=>by have:=hk.1;omega))
   have MD_:=zz (putM MD.1 hp (fun k hk h=>by have:=hk.1;omega))
   have MM_:=zz (putM MM.1 hp (fun k hk h=>by have:=hk.1;omega))
   have MT_:=zz (putM MT.1 hp (fun k hk h=>by have:=hk.1;omega))
   have BA_:=zz hn
   have HZ_:=zz (show w.heap.size+1<W.heap.size by rw [hp.size];exact HZ.1)
   have HS_:=zz (show w3.heap.size≤W.heap.size by rw [hp.size];exact z3a _)
   clear BA BR HB MR MD MM MT HZ hp hn
   have BA:=BA_
   have BR:=BR_
   have HB:=HB_
   have MR:=MR_
   have MD:=MD_
   have MM:=MM_
   have MT:=MT_
   have HZ:=HZ_
   clear BA_ BR_ HB_ MR_ MD_ MM_ MT_ HZ_
   have HS:=HS_
   clear HS_
   (refine zpa (v:= ?_) (a':= ?_) rfl rfl (Or.inl ⟨zq22,zq12⟩) zq3 ?_)
   refine zec rfl rfl zq22 40 _ _ rfl w.heap.size 2 dM dD cM ([vR]++(cT++([.bool bw]++[.bool bf]))) rfl rfl BA.1 (rfl) (LD.1) (by rw [LM.1,NM.1]) zq89 (OM.1) (fun W hp hn=> ?_)
   have BR_:=zz (zTa BR.1 hp zq9)
   have HB_:=zz (hp.below w (z3a _) HB.1)
   have MR_:=zz (putS MR.1 hp (fun k hk h=>by have:=hk.1;omega))
   have MD_:=zz (putM MD.1 hp (fun k hk h=>by have:=hk.1;omega))
   have MM_:=zz (putM MM.1 hp (fun k hk h=>by have:=hk.1;omega))
   have MT_:=zz (putM MT.1 hp (fun k hk h=>by have:=hk.1;omega))
   have BA_:=zz hn
   have HZ_:=zz (show w.heap.size+1<W.heap.size by rw [hp.size];exact HZ.1)
   have HS_:=zz (show w3.heap.size≤W.heap.size by rw [hp.size];exact HS.1)
   clear BA BR HB MR MD MM MT HZ hp hn HS
   have BA:=BA_
   have BR:=BR_
   have HB:=HB_
   have MR:=MR_
   have MD:=MD_
   have MM:=MM_
   have MT:=MT_
   have HZ:=HZ_
   clear BA_ BR_ HB_ MR_ MD_ MM_ MT_ HZ_
   have HS:=HS_
   clear HS_
   (refine zpa (v:= ?_) (a':= ?_) rfl rfl (Or.inl ⟨zq22,zq12⟩) zq3 ?_)
   refine zdc rfl rfl zq22 65 _ _ rfl w.heap.size 6 (.slice Av rs.length cv) vR (dD++dM) (cT++([.bool bw]++[.bool bf])) rfl rfl BA.1 zq131 (by rw [List.length_append,LD.1,LM.1]) zq13 rfl rfl (fun W hp hn=> ?_)
   have BR_:=zz (zTa BR.1 hp zq9)
   have HB_:=zz (hp.below w (z3a _) HB.1)
   have MR_:=zz (putS MR.1 hp (fun k hk h=>by have:=hk.1;omega))
   have MD_:=zz (putM MD.1 hp (fun k hk h=>by have:=hk.1;omega))
   have MM_:=zz (putM MM.1 hp (fun k hk h=>by have:=hk.1;omega))
   have MT_:=zz (putM MT.1 hp (fun k hk h=>by have:=hk.1;omega))
   have BA_:=zz hn
   have HZ_:=zz (show w.heap.size+1<W.heap.size by rw [hp.size];exact HZ.1)
   have HS_:=zz (show w3.heap.size≤W.heap.size by rw [hp.size];exact HS.1)
   clear BA BR HB MR MD MM MT HZ hp hn HS
   have BA:=BA_
   have BR:=BR_
   have HB:=HB_
   have MR:=MR_
   have MD:=MD_
   have MM:=MM_
   have MT:=MT_
   have HZ:=HZ_
   clear BA_ BR_ HB_ MR_ MD_ MM_ MT_ HZ_
   have HS:=HS_
   clear HS_
   (refine zpa (v:= ?_) (a':= ?_) rfl rfl (Or.inl ⟨zq22,zq12⟩) zq3 ?_)
   refine zec rfl rfl zq22 46 _ _ rfl w.heap.size 7 dT (dD++(dM++[.slice Av rs.length cv])) cT ([.bool bw]++[.bool bf]) rfl rfl BA.1 zq131 zq45 (by rw [LT.1,NT.1]) zq113 (OT.1) (fun W hp hn=> ?_)
   have BR_:=zz (zTa BR.1 hp zq9)
   have HB_:=zz (hp.below w (z3a _) HB.1)
   have MR_:=zz (putS MR.1 hp (fun k hk h=>by have:=hk.1;omega))
   have MD_:=zz (putM MD.1 hp (fun k hk h=>by have:=hk.1;omega))
   have MM_:=zz (putM MM.1 hp (fun k hk h=>by have:=hk.1;omega))
   have MT_:=zz (putM MT.1 hp (fun k hk h=>by have:=hk.1;omega))
   have BA_:=zz hn
   have HZ_:=zz (show w.heap.size+1<W.heap.size by rw [hp.size];exact HZ.1)
   have HS_:=zz (show w3.heap.size≤W.heap.size by rw [hp.size];exact HS.1)
   clear BA BR HB MR MD MM MT HZ hp hn HS
   have BA:=BA_
   have BR:=BR_
   have HB:=HB_
   have MR:=MR_
   have MD:=MD_
   have MM:=MM_
   have MT:=MT_
   have HZ:=HZ_
   clear BA_ BR_ HB_ MR_ MD_ MM_ MT_ HZ_
   have HS:=HS_
   clear HS_
   refine zZa ?_
   clear hHeld
   replace BA:=zz (show W.heap[w.heap.size]?=some (.cells ((dD++(dM++([.slice Av rs.length cv]++(dT++([.bool bw]++[.bool bf])))):List Value)).toArray 67 (0,0)) from (by have:=BA.1;simpa only [List.append_assoc] using this))
   have LEN:=zz (show ((dD++(dM++([.slice Av rs.length cv]++(dT++([.bool bw]++[.bool bf])))):List Value)).length=20 from by simp only [List.length_append,List.length_cons,List.length_nil,LD.1,LM.1,LT.1])
   have ONE:=zz (show ∀v∈((dD++(dM++([.slice Av rs.length cv]++(dT++([.bool bw]++[.bool bf])))):List Value)),v.oneCell'=true from (fun v hv=>by simp only [List.mem_append,List.mem_singleton] at hv;rcases hv with h|h|h|h|h|h<;>first|exact OD.1 v h|exact OM.1 v h|exact OT.1 v h|(subst h;rfl)))
   go_wp2_with (first|((with_reducible refine zd (N:=37) rfl ?_);refine zf rfl 67 _ rfl w.heap.size 0 [] (dD++(dM++([.slice Av rs.length cv]++(dT++([.bool bw]++[.bool bf])))):List Value) [] _ rfl BA.1 zq131 rfl Tryz.underlying67 rfl (by rw [LEN.1];kernel_rfl) ?_)|((with_reducible refine zm (t:=67) (p:=2) rfl ?_);refine zn rfl 67 _ _ rfl rfl (w.heap.size+1) 0 (dD++(dM++([.slice Av rs.length cv]++(dT++([.bool bw]++[.bool bf])))):List Value) [] [.slice none 0 0,.slice none 0 0,.int .i64 0,.int .i64 0,.int .i64 0,.slice none 0 0,.slice none 0 0,.int .i64 0,.int .i64 0,.int .i64 0,.slice none 0 0,.slice none 0 0,.slice none 0 0,.int .i64 0,.slice none 0 0,.slice none 0 0,.slice none 0 0,.int .i64 0,.bool false,.bool false] [] rfl rfl BR.1 zq22 rfl (by rw [LEN.1];rfl) (by rw [LEN.1];kernel_rfl) ONE.1 ?_;intro W2 hp hn;have BR_:=zz hn;have HP:=zz hp;clear BR hp hn;have BR:=BR_;clear BR_))
   refine bodyPost_ret (zya rfl _ _ (w.heap.size+1) 67 _ _ _ rfl BR.1 Tryz.underlying67 rfl (by simp only [List.size_toArray,List.nil_append,List.append_nil];rw [LEN.1];kernel_rfl)) rfl ?_
   have hz:=HZ.1
   have hs:=HS.1
   have hb:=HP.1.below w zq9 HB.1
   have gD:=kDisk.M_lower (base':=w.heap.size) zq9 (putM MD.1 HP.1 (fun k hk h=>by have:=hk.1;omega))
   have gM:=k40.M_lower (base':=w.heap.size) zq9 (putM MM.1 HP.1 (fun k hk h=>by have:=hk.1;omega))
   have gT:=kTxn.M_lower (base':=w.heap.size) zq9 (putM MT.1 HP.1 (fun k hk h=>by have:=hk.1;omega))
   have gR:=putS MR.1 HP.1 (fun k hk h=>by have:=hk.1;omega)
   have t4:=(show (Own.apair Kd.bool Kd.bool).M W2 w.heap.size (fun _=>False) (bw,bf) ([.bool bw]++[.bool bf]) from ⟨[.bool bw],[.bool bf],fun _=>false,rfl,rfl,rfl⟩)
   have t3:=Own.apair_mk (ok:=fun k=>w2.heap.size≤k) (okB:=fun _=>False) gT t4 (fun k h=>h.1) (fun k h=>h.elim) (fun k _ h=>h)
   have t2:=Own.apair_mk (ok:=fun k=>(w.heap.size+1<k∧k<wd.heap.size)∨w2.heap.size≤k) (okB:=fun k=>w2.heap.size≤k) (show (Own.srow 135 k135).M W2 _ _ _ [.slice Av rs.length cv] from ⟨_,rfl,gR⟩) t3 (fun k h=> .inl h) (fun k h=> .inr h) (fun k h1 h2=>by have:=h1.2;omega)
   have t1:=Own.apair_mk (ok:=fun k=>(w.heap.size+1<k∧k<wd.heap.size)∨w1.heap.size≤k) (okB:=fun k=>(w.heap.size+1<k∧k<wd.heap.size)∨w2.heap.size≤k) gM t2 (fun k h=> .inr h.1) (fun k h=>h.elim .inl (fun h=> .inr zq9)) (fun k h1 h2=>by have h3:=h1.1;have h4:=h1.2;omega)
   have t0:=Own.apair_mk (ok:=fun k=>w.heap.size≤k) (okB:=fun k=>(w.heap.size+1<k∧k<wd.heap.size)∨w1.heap.size≤k) gD t1 (fun k h=>by have:=h.1;omega) (fun k h=>by omega) (fun k h1 h2=>by have h3:=h1.1;have h4:=h1.2;omega)
   have e:([]:List Value)++((dD++(dM++([.slice Av rs.length cv]++(dT++([.bool bw]++[.bool bf])))):List Value)++[])=dD++(dM++([.slice Av rs.length cv]++(dT++([.bool bw]++[.bool bf])))):=by simp only [List.append_nil,List.nil_append]
   refine ⟨_,rfl,?_,hb⟩
   rw [e]
   exact kStore.M_mono (fun k hk=>⟨hk.1,hk.2.2.1⟩) (kStore.M_bound t0)
def spec_l01In.f (a0:Int) (a1:Int) (a2:Int):Option (Bool):=if a0≥a1 then (some (decide (a0≤a2))) else (some false)
theorem spec_l01In.calls (a0:Int) (a1:Int) (a2:Int) (r:Bool) (w:World) (h:spec_l01In.f a0 a1 a2=some r):
  Calls Tryz.prog 77 #[.int .i64 a0,.int .i64 a1,.int .i64 a2] w fun e w'=>e= .returned (.bool r)∧Drawn0 w w':=by
 have H:(if a0≥a1 then (some (decide (a0≤a2))) else (some false))=some r:=h
 clear h
 by_cases c4:a0≥a1
 ·rw [if_pos c4] at H
  have c4b0:decide (a1≤a0)=true:=z6 c4
  clear c4
  obtain rfl:=z6a H
  go_enter Tryz.func77,Tryz.ntmps77
  exact zq167
 ·rw [if_neg c4] at H
  have c4b0:decide (a1≤a0)=false:=z7 c4
  clear c4
  obtain rfl:=z6a H
  go_enter Tryz.func77,Tryz.ntmps77
  exact zq167
def spec_SyncDisk.l0:Nat→Int→List ByteArray→List (S110)→List ByteArray→Option (List ByteArray×(List (S110)))
 |0,_,_,_,_=>none
 |k+1,x4,x397000,x397001,x405000=>if x4<(x397001.length:Int) then (if 0≤x4 then ((spec_l01In.f ((zv x397001 x4).f0) 0 (wrap64 ((x397000.length:Int)-1))).bind fun t406=>(if t406=true then (if 0≤((zv x397001 x4).f0) then (if ((zv x397001 x4).f0)<(x405000.length:Int) then (spec_SyncDisk.l0 k (wrap64 (x4+1)) x397000 x397001 (x405000.set (((zv x397001 x4).f0):Int).toNat ((zv x397001 x4).f1))) else (none)) else (none)) else (spec_SyncDisk.l0 k (wrap64 (x4+1)) x397000 x397001 x405000))) else (none)) else (some (x405000,([]:List (S110))))
def spec_SyncDisk.f (k:Nat) (l0_0:List ByteArray) (l0_1:List (S110)):Option (List ByteArray×(List (S110))):=(some (([]:List ByteArray):List ByteArray)).bind fun y398=>(if y398.length+l0_0.length<8796093022208 then (spec_SyncDisk.l0 k 0 l0_0 l0_1 (y398++l0_0)) else (none))
def spec_SyncDisk.T5:Bool×List (List Nat×List Nat):=(true,[([],[]),([0],[0]),([],[]),([1,2],[1,2]),([3],[3]),([4],[4]),([],[]),([6],[6]),([7],[7]),([8],[8]),([5,9],[5,9])])
def spec_SyncDisk.B5:List Nat:=[0,1,0,7,15,31,0,64,192,448,1023]
theorem spec_SyncDisk.tab5:rtab .any (zFa Tryz.f33 5)=spec_SyncDisk.T5:=zq13
theorem spec_SyncDisk.bits5:zQa spec_SyncDisk.T5.2 spec_SyncDisk.B5=true:=zq13
def spec_SyncDisk.T6:Bool×List (List Nat×List Nat):=(true,[([],[]),([0],[0]),([],[]),([2],[2]),([],[]),([3,4],[3,4]),([5],[5]),([6],[6]),([],[]),([8],[8]),([],[]),([9,10],[9,10]),([11],[11]),([12],[12]),([1,7,0,1,2,3,4,5,6,7,8,9,10,11,12,13],[1,7]),([14,13,0,1,2,3,4,5,6,7,8,9,10,11,12,13],[13,14])])
def spec_SyncDisk.B6:List Nat:=[0,1,0,4,0,28,60,124,0,256,0,1792,3840,7936,16383,32767]
theorem spec_SyncDisk.tab6:rtab .any (zFa Tryz.f33 6)=spec_SyncDisk.T6:=zq13
theorem spec_SyncDisk.bits6:zQa spec_SyncDisk.T6.2 spec_SyncDisk.B6=true:=zq13
theorem spec_SyncDisk.calls (k:Nat) (A0:Option Addr) (c0:Nat) (l2:List ByteArray) (A1:Option Addr) (c1:Nat) (l3:List (S110)) (r1:List ByteArray) (r2:List (S110)) (w:World) (r0:Kd.C Kd.string w A0 l2.length l2) (h0:l2.length≤c0) (r3:Kd.C k110 w A1 l3.length l3) (h2:l3.length≤c1) (h:spec_SyncDisk.f k l2 l3=some (r1,r2)):
  Calls Tryz.prog 33 #[.agg #[.slice A0 l2.length c0,.slice A1 l3.length c1]] w fun e w'=>∃v0 v1:Value,e= .returned (.agg #[v0,v1])∧Kd.R Kd.string 9 w' w.heap.size (fun _=>True) v0 r1∧Kd.R k110 110 w' w.heap.size (fun _=>True) v1 r2∧Below w.heap.size w w':=by
 have hu32:=Tryz.underlying37
 have R0:=zz r0
 clear r0 h0
 have R1:=zz r3
 clear r3 h2
 have HB:=zz (z1a w.heap.size w)
 have H:((some (([]:List ByteArray):List ByteArray)).bind fun y0=>(if y0.length+l2.length<8796093022208 then (spec_SyncDisk.l0 k 0 l2 l3 (y0++l2)) else (none)))=some (r1,r2):=h
 clear h
 obtain ⟨y0,i0⟩:∃y_:List ByteArray,y_=(([]:List ByteArray)):=⟨_,rfl⟩
 replace H:(if y0.length+l2.length<8796093022208 then (spec_SyncDisk.l0 k 0 l2 l3 (y0++l2)) else (none))=some (r1,r2):=zq20
 have Y0:=zz i0
 clear i0
 by_cases c2:y0.length+l2.length<8796093022208
 ·rw [if_pos c2] at H
  have LMc2:=zz c2
  clear c2
  obtain ⟨y1,i1⟩:∃y_:List ByteArray,y_=(y0++l2):=⟨_,rfl⟩
  replace H:(spec_SyncDisk.l0 k 0 l2 l3 y1)=some (r1,r2):=zq34
  have Y1:=zz i1
  clear i1
  have H':=zz H
  clear H
  go_enter Tryz.func33,Tryz.ntmps33
  go_wp2_with (first|((with_reducible refine zd (N:=1) rfl ?_);refine zx rfl (N:=1) rfl (cs:= #[.slice A0 l2.length c0,.slice A1 l3.length c1]) (t:=37) zq27 ?_;intro g0 hg w3 hbox hb;have B0:=zz hbox;have G0:=zz (zq15:w.heap.size≤g0);replace HB:=zz (ze zq0 hb);clear hb hbox hg)|((with_reducible refine zd (N:=2) rfl ?_);refine zx rfl (N:=2) rfl (cs:= #[.slice none 0 0,.slice none 0 0]) (t:=37) zq27 ?_;intro g1 hg w4 hbox hb;have B2:=zz hbox;have G1:=zz (zq25 G0.1:w.heap.size≤g1);have N0:=zz (zq28 B0.1:g0≠g1);have N1:=zz (zq29 B0.1:g1≠g0);replace B0:=zz (zg (g:=g0) (o:= .cells #[.slice A0 l2.length c0,.slice A1 l3.length c1] 37 (0,0)) (zq1 B0.1) hb);replace HB:=zz (ze (zq4 G0.1) hb);clear hb hbox hg)|((with_reducible refine zd (N:=5) rfl ?_);refine Kd.R_lit Kd.string _ 9 ?hg (N:=5) ?hd (xs:=([]:List ByteArray)) (inner:=[]) (ok:=fun _=>True) (okp:=fun _=>True) ?hr ?hp (fun _ hk=>hk) trivial (z1a _ _) (z3a _) zq38 ?_;(case hd=>rfl);(case hg=>rfl);(case hr=>first|(go_simp;done)|(go_simp;rfl));(case hp=>exact (Reps.none _ _));intro v2 w5 ho6 hb hg_ hnew_;clear hg_ hnew_;(first|rw [←Y0.1] at ho6|(simp only [Int.reduceToNat] at ho6;rw [←Y0.1] at ho6));have O0:=zz (Kd.R_lower ho6 (zD (zq5 G0.1 G1.1)));replace B0:=zz (zg (g:=g0) (o:= .cells #[.slice A0 l2.length c0,.slice A1 l3.length c1] 37 (0,0)) (zq1 B0.1) hb);replace B2:=zz (zg (g:=g1) (o:= .cells #[.slice none 0 0,.slice none 0 0] 37 (0,0)) (zq1 B2.1) hb);replace HB:=zz (ze (zq5 G0.1 G1.1) hb);clear hb ho6;have hnb7:=N0.1;have hnc7:=N1.1;obtain ⟨_,_,_,_⟩:=zV B0.1)|((with_reducible refine zea (b:= .append) (xs:= #[.tmp 5,.tmp 7]) rfl ?_);at_builtin;refine Kd.R_append_rows Kd.string (w0:=w) w.heap.size rfl (.tmp 5) (.tmp 7) 25 9 (.string ⟨#[]⟩) 16 rfl Tryz.underlying25 info9 rfl zq31 zq9 v2 y0 l2 _ _ _ (fun _=>True) (fun _=>False) rfl rfl ?aO ?aR (fun _ _ h=>h) (fun _ h=>h.elim) ?aF ?aB ?aS ?aL ?_;(case aR=>repeat (first|exact (Kd.C_below R0.1 HB.1)|(with_reducible refine Kd.C_alloc ?_ _)|(with_reducible refine Kd.C_drewN ?_ _)|(with_reducible refine Kd.C_drew ?_)));(case aB=>exact (zq5 G0.1 G1.1));(case aF=>exact (fun _ _=>trivial));(case aO=>exact (zq17 O0.1));(case aS=>exact (zD (zq5 G0.1 G1.1)));(case aL=>have:=LMc2.1;omega);intro v402 w9 ho hb hg hat;rw [←Y1.1] at ho;have O1:=zz ho;replace B0:=zz (zK (g:=g0) (o:= .cells #[.slice A0 l2.length c0,.slice A1 l3.length c1] 37 (0,0)) (zq1 B0.1) hg (Kd.R_ne O0.1 B0.1 zq31));replace B2:=zz (zK (g:=g1) (o:= .cells #[.slice none 0 0,.slice none 0 0] 37 (0,0)) (zq1 B2.1) hg (Kd.R_ne O0.1 B2.1 zq31));replace HB:=zz hb;clear O0;clear ho hb hg hat;obtain ⟨A2,c11,e0⟩:=Kd.R_slice O1.1;subst e0)|((with_reducible refine zd (N:=3) rfl ?_);refine zx rfl (N:=3) rfl (cs:= #[.slice none 0 0,.slice none 0 0]) (t:=37) zq27 ?_;intro g2 hg w11 hbox hb;have B4:=zz hbox;have G2:=zz (zq35 G0.1 G1.1:w.heap.size≤g2);have N2:=zz (zq28 B0.1:g0≠g2);have N3:=zz (zq29 B0.1:g2≠g0);have N4:=zz (zq43 B2.1:g1≠g2);have N5:=zz (zq44 B2.1:g2≠g1);replace O1:=zz (Kd.R_below (zq17 O1.1) hb);replace B0:=zz (zg (g:=g0) (o:= .cells #[.slice A0 l2.length c0,.slice A1 l3.length c1] 37 (0,0)) (zq1 B0.1) hb);replace B2:=zz (zg (g:=g1) (o:= .cells #[.slice none 0 0,.slice none 0 0] 37 (0,0)) (zq1 B2.1) hb);replace HB:=zz (ze (zq5 G0.1 G1.1) hb);clear hb hbox hg;have hnb12:=N3.1;have hnc12:=N2.1;have hnb13:=N5.1;have hnc13:=N4.1;obtain ⟨_,_,_,_⟩:=zV B4.1))
  go_loopg [4] k (fun kq v4 w'=>∃(x0:Int) (x1:List ByteArray) (u0:Value),v4= .int .i64 x0∧Z0 (spec_SyncDisk.l0 kq x0 l2 l3 x1=some (r1,r2))∧Z0 (kq≤k)∧Z0 (Kd.R Kd.string 9 w' w.heap.size (fun _=>True) u0 x1)∧Z0 (w'.heap[g0]?=some (.cells #[(.slice A0 l2.length c0),(.slice A1 l3.length c1)] 37 (0,0)))∧Z0 (w'.heap[g1]?=some (.cells #[(.slice none 0 0),(.slice none 0 0)] 37 (0,0)))∧Z0 (w'.heap[g2]?=some (.cells #[u0,(.slice none 0 0)] 37 (0,0)))∧Z0 (Below w.heap.size w w'))
  case atStart=>exact ⟨(0),(y1),(.slice A2 y1.length c11),zq18,H',⟨z3a _⟩,⟨by (with_reducible repeat (first|apply Kd.R_alloc|apply Kd.R_drewN|apply Kd.R_drew));exact Kd.R_mono (Kd.R_far (p:=⟨g2,1,none⟩) (Kd.R_far (p:=⟨g2,0,none⟩) (Kd.R_types O1.1 B4.1 zq31) (fun _ hk=>hk.2) (.slice A2 y1.length c11)) (fun _ hk=>hk.2) (.slice none 0 0)) (fun _ hk=>trivial)⟩,⟨by (with_reducible repeat (first|refine zk ?_ _|refine zl ?_|refine zh ?_ _));refine zka ?_ N2.1 _;(with_reducible repeat (first|refine zk ?_ _|refine zl ?_|refine zh ?_ _));refine zka ?_ N2.1 _;(with_reducible repeat (first|refine zk ?_ _|refine zl ?_|refine zh ?_ _));exact B0.1⟩,⟨by (with_reducible repeat (first|refine zk ?_ _|refine zl ?_|refine zh ?_ _));refine zka ?_ N4.1 _;(with_reducible repeat (first|refine zk ?_ _|refine zl ?_|refine zh ?_ _));refine zka ?_ N4.1 _;(with_reducible repeat (first|refine zk ?_ _|refine zl ?_|refine zh ?_ _));exact B2.1⟩,⟨by (with_reducible repeat (first|refine zk ?_ _|refine zl ?_|refine zh ?_ _));refine zW (cs:= #[.slice A2 y1.length c11,.slice none 0 0]) ?_ 1 _ rfl;(with_reducible repeat (first|refine zk ?_ _|refine zl ?_|refine zh ?_ _));refine zW (cs:= #[.slice none 0 0,.slice none 0 0]) ?_ 0 _ rfl;(with_reducible repeat (first|refine zk ?_ _|refine zl ?_|refine zh ?_ _));exact B4.1⟩,⟨zq11 G0.1 G1.1 G2.1⟩⟩
  case round=>
   clear H'
   try clear c2
   try clear hcz14_0
   try clear hcz14_1
   try clear hcz8_0
   try clear hcz8_1
   try clear hfz14_0
   try clear hfz14_1
   try clear hfz8_0
   try clear hfz8_1
   obtain ⟨x0,x1,u0,rfl,HA,HK1,O2,B0,B2,B4,HB⟩:=hrel
   cases gk with
   |zero=>exact absurd HA.1 (by simp [spec_SyncDisk.l0])
   |succ k1=>
    have H:=HA.1
    clear HA
    simp only [spec_SyncDisk.l0] at H
    by_cases c12:x0<(l3.length:Int)
    ·rw [if_pos c12] at H
     have c13:=z6 c12
     clear c12
     by_cases c14:0≤x0
     ·rw [if_pos c14] at H
      have c16b0:=z6 c14
      clear c14
      replace H:=z2a H
      obtain ⟨t0,A4,H⟩:=H
      replace H:(if t0=true then (if 0≤((zv l3 x0).f0) then (if ((zv l3 x0).f0)<(x1.length:Int) then (spec_SyncDisk.l0 k1 (wrap64 (x0+1)) l2 l3 (x1.set (((zv l3 x0).f0):Int).toNat ((zv l3 x0).f1))) else (none)) else (none)) else (spec_SyncDisk.l0 k1 (wrap64 (x0+1)) l2 l3 x1))=some (r1,r2):=H
      have A5:=zz A4
      clear A4
      by_cases c17:t0=true
      ·subst c17
       rw [if_pos rfl] at H
       by_cases c21:0≤((zv l3 x0).f0)
       ·rw [if_pos c21] at H
        have c19b0:=z6 c21
        clear c21
        by_cases c22:((zv l3 x0).f0)<(x1.length:Int)
        ·rw [if_pos c22] at H
         have c20b0:=z6 c22
         clear c22
         obtain ⟨y2,i2⟩:∃y_:List ByteArray,y_=(x1.set (((zv l3 x0).f0):Int).toNat ((zv l3 x0).f1)):=⟨_,rfl⟩
         replace H:(spec_SyncDisk.l0 k1 (wrap64 (x0+1)) l2 l3 y2)=some (r1,r2):=zq52
         have Y2:=zz i2
         clear i2
         have H':=zz H
         clear H
         have hnb22:=N0.1
         have hnc22:=N1.1
         have hnb23:=N2.1
         have hnc23:=N3.1
         have hcz24_0:wr.cell? ⟨g0,0,none⟩=some (.slice A0 l2.length c0):=(zj B0.1 0).trans rfl
         have hcz24_1:wr.cell? ⟨g0,1,none⟩=some (.slice A1 l3.length c1):=(zj B0.1 1).trans rfl
         have hfz24_0:=zu B0.1 0
         have hfz24_1:=zu B0.1 1
         try go_wp2
         have n0:=zz (Kd.R_drew O2.1)
         have n1:=zz (zl B0.1)
         have n2:=zz (zl B2.1)
         have n3:=zz (zl B4.1)
         have n4:=zz (zR HB.1)
         clear O2
         clear B0
         clear B2
         clear B4
         clear HB
         have O2:=n0
         have B0:=n1
         have B2:=n2
         have B4:=n3
         have HB:=n4
         clear n0 n1 n2 n3 n4
         have p0:0≤(x0:Int):=z8 zq21
         have q0:x0<(l3.length:Int):=z8 zq21
         obtain ⟨b0,e1,k0,k2⟩:=zIa R1.1 x0 p0 q0
         have h3:=k2
         have h4:=k0
         cases e1
         replace k0:=(HB.1.cell (z0a w _ k0)).trans k0
         replace k2:=(HB.1.cell (z0a w _ k2)).trans k2
         replace p0:=eq_true p0
         replace q0:=eq_true q0
         refine zVb (n:=11) (S:=fun w'=>w'.cell? ⟨g0,0,none⟩=some (.slice A0 l2.length c0)∧w'.cell? ⟨g0,1,none⟩=some (.slice (some b0) l3.length c1)∧w'.cell? (b0.add ((x0).toNat*2))=some (.int .i64 ((zv l3 x0).f0))∧w'.cell? ⟨(b0.add ((x0).toNat*2)).block,(b0.add ((x0).toNat*2)).off+1,none⟩=some (.string ((zv l3 x0).f1))) (ds:=[]) #[false,false,false,false,false,false,false,false,false,false,false] zq13 rfl rfl ⟨(zj B0.1 0).trans rfl,(zj B0.1 1).trans rfl,((HB.1.cell (z0a w _ h4)).trans h4),((HB.1.cell (z0a w _ h3)).trans h3)⟩ (fun hHeld=> ?_);refine zYa spec_SyncDisk.tab5 spec_SyncDisk.bits5 (fun HT_ HW_=> ?_)
         generalize wr.drew=w6 at O2 B0 B2 B4 HB k0 k2 hHeld ⊢
         refine zia (i:=0) (N:=some 17) (v:= ?_) (a':= ?_) #[true,false,false,false,false,false,false,false,false,false,false] rfl rfl (zQ HT_.1 zq13) (fun _ _ _ h=>h) (Or.inl ⟨zq22,zq12⟩) zq10 ?_
         refine zia (i:=2) (N:=some 19) (v:= ?_) (a':= ?_) #[true,false,true,false,false,false,false,false,false,false,false] rfl rfl (zQ HT_.1 zq13) (fun _ _ _ h=>h) (Or.inl ⟨zq22,zq12⟩) zq10 ?_
         refine zia (i:=6) (N:=some 23) (v:= ?_) (a':= ?_) #[true,false,true,false,false,false,true,false,false,false,false] rfl rfl (zQ HT_.1 zq13) (fun _ _ _ h=>h) (Or.inl ⟨zq22,zq12⟩) zq10 ?_
         refine take_ (i:=1) (N:=some 18) (v:= ?_) (a':= ?_) #[true,true,true,false,false,false,true,false,false,false,false] rfl rfl (zja HT_.1 HW_.1 zq13) (fun _ _ _ h=>h) (Or.inl ⟨zq22,zq49⟩) hHeld zq10 ?_
         refine zia (i:=3) (N:=some 20) (v:= ?_) (a':= ?_) #[true,true,true,true,false,false,true,false,false,false,false] rfl rfl (zQ HT_.1 zq13) (fun _ _ _ h=>h) (Or.inl ⟨zq22,zq12⟩) zq10 ?_
         refine zia (i:=4) (N:=some 21) (v:= ?_) (a':= ?_) #[true,true,true,true,true,false,true,false,false,false,false] rfl rfl (zQ HT_.1 zq13) (fun _ _ _ h=>h) (Or.inl ⟨zq22,zq12⟩) zq10 ?_
         refine take_ (i:=5) (N:=some 22) (v:= ?_) (a':= ?_) #[true,true,true,true,true,true,true,false,false,false,false] rfl rfl (zja HT_.1 HW_.1 zq13) (fun _ _ _ h=>h) (Or.inl ⟨zq22,zq49⟩) hHeld zq10 ?_
         refine take_ (i:=7) (N:=some 24) (v:= ?_) (a':= ?_) #[true,true,true,true,true,true,true,true,false,false,false] rfl rfl (zja HT_.1 HW_.1 zq13) (fun _ _ _ h=>h) (Or.inl ⟨zq22,zq49⟩) hHeld zq10 ?_
         refine zia (i:=8) (N:=some 25) (v:= ?_) (a':= ?_) #[true,true,true,true,true,true,true,true,true,false,false] rfl rfl (zQ HT_.1 zq13) (fun _ _ _ h=>h) (Or.inl ⟨zq22,zq12⟩) zq10 ?_
         refine zia (i:=9) (N:=some 26) (v:= ?_) (a':= ?_) #[true,true,true,true,true,true,true,true,true,true,false] rfl rfl (zQ HT_.1 zq13) (fun _ _ _ h=>h) (Or.inl ⟨zq22,zq12⟩) zq10 ?_
         refine one_ (i:=10) (N:=some 27) #[true,true,true,true,true,true,true,true,true,true,true] rfl rfl (zVa HT_.1 zq13) zq31 (fun K hK=> ?_)
         refine goes_ Tryz.func77 zq13 rfl #[.int .i64 ((zv l3 x0).f0),.int .i64 0,.int .i64 (wrap64 ((l2.length:Int)-1))] zq22 rfl rfl zq8 ?_
         with_reducible refine (spec_l01In.calls ((zv l3 x0).f0) 0 (wrap64 ((l2.length:Int)-1)) true _ A5.1).mono ?_
         rintro e w' ⟨rfl,⟨nd,rfl⟩⟩
         refine ⟨_,rfl,?_⟩
         refine hK.out _ _ ⟨(zj B0.1 0).trans rfl,(zj B0.1 1).trans rfl,((HB.1.cell (z0a w _ h4)).trans h4),((HB.1.cell (z0a w _ h3)).trans h3)⟩ (fun hHeld=> ?_)
         clear hK K
         refine zUb (a':= ?_) ?_ ?_
         rotate_left
         ·show Act.put _ (some 27) _=_
          exact zq146
         refine done_ (done_of HT_.1 zq13) ?_
         try go_wp2
         (try (rw [drewN_self w6];generalize hq_:World.drewN w6 _=w6;have n0:Z0 (Kd.R Kd.string 9 w6 w.heap.size (fun _=>True) u0 x1):=⟨by rw [←hq_];exact (zq17 O2.1)⟩;have n1:Z0 (w6.heap[g0]?=some (.cells #[.slice A0 l2.length c0,.slice (some b0) l3.length c1] 37 (0,0))):=⟨by rw [←hq_];exact (zq1 B0.1)⟩;have n2:Z0 (w6.heap[g1]?=some (.cells #[.slice none 0 0,.slice none 0 0] 37 (0,0))):=⟨by rw [←hq_];exact (zq1 B2.1)⟩;have n3:Z0 (w6.heap[g2]?=some (.cells #[u0,.slice none 0 0] 37 (0,0))):=⟨by rw [←hq_];exact (zq1 B4.1)⟩;have n4:Z0 (Below w.heap.size w w6):=⟨by rw [←hq_];exact (zq11 G0.1 G1.1 G2.1)⟩;clear O2;clear B0;clear B2;clear B4;clear HB;clear hq_;have O2:=n0;have B0:=n1;have B2:=n2;have B4:=n3;have HB:=n4;clear n0 n1 n2 n3 n4))
         have n0:=zz (Kd.R_drew O2.1)
         have n1:=zz (zl B0.1)
         have n2:=zz (zl B2.1)
         have n3:=zz (zl B4.1)
         have n4:=zz (zR HB.1)
         clear O2
         clear B0
         clear B2
         clear B4
         clear HB
         have O2:=n0
         have B0:=n1
         have B2:=n2
         have B4:=n3
         have HB:=n4
         clear n0 n1 n2 n3 n4
         have p1:0≤(x0:Int):=z8 zq21
         have q1:x0<(l3.length:Int):=z8 zq21
         obtain ⟨b1,e2,k3,k4⟩:=zIa R1.1 x0 p1 q1
         have h5:=k4
         have h6:=k3
         obtain rfl:b0=b1:=(by injection e2)
         replace k3:=(HB.1.cell (z0a w _ k3)).trans k3
         replace k4:=(HB.1.cell (z0a w _ k4)).trans k4
         replace p1:=eq_true p1
         replace q1:=eq_true q1
         have p2:0≤(x0:Int):=z8 zq21
         have q2:x0<(l3.length:Int):=z8 zq21
         obtain ⟨b2,e3,k5,k6⟩:=zIa R1.1 x0 p2 q2
         have h7:=k6
         have h8:=k5
         obtain rfl:b0=b2:=(by injection e3)
         replace k5:=(HB.1.cell (z0a w _ k5)).trans k5
         replace k6:=(HB.1.cell (z0a w _ k6)).trans k6
         replace p2:=eq_true p2
         replace q2:=eq_true q2
         have p3:0≤(((zv l3 x0).f0):Int):=z8 zq21
         have q3:(((zv l3 x0).f0):Int)<((x1.length:Int):Int):=z8 zq21
         obtain ⟨go21,c23,e4,g3,gl21,cl21,HG21⟩:=Kd.R_form O2.1 zq9
         (first|cases e4|(injection e4 with ea_ en_ ec_;(first|subst ea_|(injection ea_ with ea_;subst ea_));subst ec_;clear en_))
         have GB21:=zz g3
         have GG21:=zz HG21
         clear g3 gl21 HG21
         obtain ⟨k7,hf21_0⟩:=Kd.R_celln (⟨#[]⟩:ByteArray) O2.1 (((zv l3 x0).f0):Int) p3 q3
         replace p3:=eq_true p3
         replace q3:=eq_true q3
         have HP27:=Kd.R_putn O2.1 (((zv l3 x0).f0):Int) ((zv l3 x0).f1)
         rw [←Y2.1] at HP27
         have HQ27:=zz HP27
         clear HP27
         refine zVb (n:=16) (S:=fun w'=>w'.cell? ⟨g2,0,none⟩=some (.slice (some ⟨go21,0,none⟩) x1.length c23)∧w'.cell? ⟨g2,1,none⟩=some (.slice none 0 0)∧w'.cell? ⟨g0,0,none⟩=some (.slice A0 l2.length c0)∧w'.cell? ⟨g0,1,none⟩=some (.slice (some b0) l3.length c1)∧w'.cell? (b0.add ((x0).toNat*2))=some (.int .i64 ((zv l3 x0).f0))∧w'.cell? ⟨(b0.add ((x0).toNat*2)).block,(b0.add ((x0).toNat*2)).off+1,none⟩=some (.string ((zv l3 x0).f1))∧w'.cell? (b0.add ((x0).toNat*2))=some (.int .i64 ((zv l3 x0).f0))∧w'.cell? ⟨(b0.add ((x0).toNat*2)).block,(b0.add ((x0).toNat*2)).off+1,none⟩=some (.string ((zv l3 x0).f1))) (ds:=[15]) #[false,false,false,false,false,false,false,false,false,false,false,false,false,false,false,false] zq13 rfl rfl ⟨(zj B4.1 0).trans rfl,(zj B4.1 1).trans rfl,(zj B0.1 0).trans rfl,(zj B0.1 1).trans rfl,((HB.1.cell (z0a w _ h6)).trans h6),((HB.1.cell (z0a w _ h5)).trans h5),((HB.1.cell (z0a w _ h8)).trans h8),((HB.1.cell (z0a w _ h7)).trans h7)⟩ (fun hHeld=> ?_);refine zYa spec_SyncDisk.tab6 spec_SyncDisk.bits6 (fun HT_ HW_=> ?_)
         generalize w6.drew=w26 at O2 B0 B2 B4 HB GG21 HQ27 hf21_0 k7 k3 k4 k5 k6 hHeld ⊢
         refine zia (i:=0) (N:=some 28) (v:= ?_) (a':= ?_) #[true,false,false,false,false,false,false,false,false,false,false,false,false,false,false,false] rfl rfl (zQ HT_.1 zq13) (fun _ _ _ h=>h) (Or.inl ⟨zq22,zq12⟩) zq10 ?_
         refine zia (i:=2) (N:=some 30) (v:= ?_) (a':= ?_) #[true,false,true,false,false,false,false,false,false,false,false,false,false,false,false,false] rfl rfl (zQ HT_.1 zq13) (fun _ _ _ h=>h) (Or.inl ⟨zq22,zq12⟩) zq10 ?_
         refine zia (i:=4) (N:=some 32) (v:= ?_) (a':= ?_) #[true,false,true,false,true,false,false,false,false,false,false,false,false,false,false,false] rfl rfl (zQ HT_.1 zq13) (fun _ _ _ h=>h) (Or.inl ⟨zq22,zq12⟩) zq10 ?_
         refine zia (i:=8) (N:=some 36) (v:= ?_) (a':= ?_) #[true,false,true,false,true,false,false,false,true,false,false,false,false,false,false,false] rfl rfl (zQ HT_.1 zq13) (fun _ _ _ h=>h) (Or.inl ⟨zq22,zq12⟩) zq10 ?_
         refine zia (i:=10) (N:=some 38) (v:= ?_) (a':= ?_) #[true,false,true,false,true,false,false,false,true,false,true,false,false,false,false,false] rfl rfl (zQ HT_.1 zq13) (fun _ _ _ h=>h) (Or.inl ⟨zq22,zq12⟩) zq10 ?_
         refine take_ (i:=1) (N:=some 29) (v:= ?_) (a':= ?_) #[true,true,true,false,true,false,false,false,true,false,true,false,false,false,false,false] rfl rfl (zja HT_.1 HW_.1 zq13) (fun _ _ _ h=>h) (Or.inl ⟨zq22,zq103⟩) hHeld zq10 ?_
         refine take_ (i:=3) (N:=some 31) (v:= ?_) (a':= ?_) #[true,true,true,true,true,false,false,false,true,false,true,false,false,false,false,false] rfl rfl (zja HT_.1 HW_.1 zq13) (fun _ _ _ h=>h) (Or.inl ⟨zq22,zq103⟩) hHeld zq10 ?_
         refine zia (i:=5) (N:=some 33) (v:= ?_) (a':= ?_) #[true,true,true,true,true,true,false,false,true,false,true,false,false,false,false,false] rfl rfl (zQ HT_.1 zq13) (fun _ _ _ h=>h) (Or.inl ⟨zq22,zq12⟩) zq10 ?_
         refine zia (i:=6) (N:=some 34) (v:= ?_) (a':= ?_) #[true,true,true,true,true,true,true,false,true,false,true,false,false,false,false,false] rfl rfl (zQ HT_.1 zq13) (fun _ _ _ h=>h) (Or.inl ⟨zq22,zq12⟩) zq10 ?_
         refine take_ (i:=7) (N:=some 35) (v:= ?_) (a':= ?_) #[true,true,true,true,true,true,true,true,true,false,true,false,false,false,false,false] rfl rfl (zja HT_.1 HW_.1 zq13) (fun _ _ _ h=>h) (Or.inl ⟨zq22,zq103⟩) hHeld zq10 ?_
         refine take_ (i:=9) (N:=some 37) (v:= ?_) (a':= ?_) #[true,true,true,true,true,true,true,true,true,true,true,false,false,false,false,false] rfl rfl (zja HT_.1 HW_.1 zq13) (fun _ _ _ h=>h) (Or.inl ⟨zq22,zq103⟩) hHeld zq10 ?_
         refine zia (i:=11) (N:=some 39) (v:= ?_) (a':= ?_) #[true,true,true,true,true,true,true,true,true,true,true,true,false,false,false,false] rfl rfl (zQ HT_.1 zq13) (fun _ _ _ h=>h) (Or.inl ⟨zq22,zq12⟩) zq10 ?_
         refine zia (i:=12) (N:=some 40) (v:= ?_) (a':= ?_) #[true,true,true,true,true,true,true,true,true,true,true,true,true,false,false,false] rfl rfl (zQ HT_.1 zq13) (fun _ _ _ h=>h) (Or.inl ⟨zq22,zq12⟩) zq10 ?_
         refine take_ (i:=13) (N:=some 41) (v:= ?_) (a':= ?_) #[true,true,true,true,true,true,true,true,true,true,true,true,true,true,false,false] rfl rfl (zja HT_.1 HW_.1 zq13) (fun _ _ _ h=>h) (Or.inl ⟨zq22,zq103⟩) hHeld zq10 ?_
         refine zia (i:=14) (N:=some 42) (v:= ?_) (a':= ?_) #[true,true,true,true,true,true,true,true,true,true,true,true,true,true,true,false] rfl rfl (zQ HT_.1 zq13) (fun _ _ _ h=>h) (Or.inl ⟨zq22,zq12⟩) zq10 ?_
         refine last_ (i:=15) (N:=none) #[true,true,true,true,true,true,true,true,true,true,true,true,true,true,true,true] rfl rfl (zVa HT_.1 zq13) zq31 (fun K hK=> ?_)
         refine skip_ (w1:= ?_) zq22 rfl ?_ ?_
         rotate_left
         ·go_simp
          rfl
         refine hK.out _ _ ?_
         clear hK K
         refine done_ (done_of HT_.1 zq13) ?_
         try go_wp2
         go_roundg k1
         case measure=>have:=HK1.1;omega
         case rel=>exact ⟨(wrap64 (x0+1)),(y2),(.slice (some ⟨go21,0,none⟩) x1.length c23),zq18,H',⟨zq51 HK1.1⟩,⟨by (with_reducible repeat (first|apply Kd.R_alloc|apply Kd.R_drewN|apply Kd.R_drew));exact HQ27.1⟩,⟨by (with_reducible repeat (first|refine zk ?_ _|refine zl ?_|refine zh ?_ _));refine zka ?_ (by have h_:=Kd.R_ne O2.1 B0.1 zq31;intro e_;exact h_ (by rw [e_];rfl)) _;(with_reducible repeat (first|refine zk ?_ _|refine zl ?_|refine zh ?_ _));exact B0.1⟩,⟨by (with_reducible repeat (first|refine zk ?_ _|refine zl ?_|refine zh ?_ _));refine zka ?_ (by have h_:=Kd.R_ne O2.1 B2.1 zq31;intro e_;exact h_ (by rw [e_];rfl)) _;(with_reducible repeat (first|refine zk ?_ _|refine zl ?_|refine zh ?_ _));exact B2.1⟩,⟨by (with_reducible repeat (first|refine zk ?_ _|refine zl ?_|refine zh ?_ _));refine zka ?_ (by have h_:=Kd.R_ne O2.1 B4.1 zq31;intro e_;exact h_ (by rw [e_];rfl)) _;(with_reducible repeat (first|refine zk ?_ _|refine zl ?_|refine zh ?_ _));exact B4.1⟩,⟨zq36 GB21.1 G0.1 G1.1 G2.1⟩⟩
        ·rw [if_neg c22] at H
         exact absurd H zq38
       ·rw [if_neg c21] at H
        exact absurd H zq38
      ·replace c17:=Bool.eq_false_iff.mpr c17
       subst c17
       rw [if_neg (show ¬(false=true) by decide)] at H
       have H':=zz H
       clear H
       have hnb28:=N0.1
       have hnc28:=N1.1
       have hnb29:=N2.1
       have hnc29:=N3.1
       have hcz30_0:wr.cell? ⟨g0,0,none⟩=some (.slice A0 l2.length c0):=(zj B0.1 0).trans rfl
       have hcz30_1:wr.cell? ⟨g0,1,none⟩=some (.slice A1 l3.length c1):=(zj B0.1 1).trans rfl
       have hfz30_0:=zu B0.1 0
       have hfz30_1:=zu B0.1 1
       try go_wp2
       have n0:=zz (Kd.R_drew O2.1)
       have n1:=zz (zl B0.1)
       have n2:=zz (zl B2.1)
       have n3:=zz (zl B4.1)
       have n4:=zz (zR HB.1)
       clear O2
       clear B0
       clear B2
       clear B4
       clear HB
       have O2:=n0
       have B0:=n1
       have B2:=n2
       have B4:=n3
       have HB:=n4
       clear n0 n1 n2 n3 n4
       have p0:0≤(x0:Int):=z8 zq21
       have q0:x0<(l3.length:Int):=z8 zq21
       obtain ⟨b0,e1,k0,k2⟩:=zIa R1.1 x0 p0 q0
       have h3:=k2
       have h4:=k0
       cases e1
       replace k0:=(HB.1.cell (z0a w _ k0)).trans k0
       replace k2:=(HB.1.cell (z0a w _ k2)).trans k2
       replace p0:=eq_true p0
       replace q0:=eq_true q0
       refine zVb (n:=11) (S:=fun w'=>w'.cell? ⟨g0,0,none⟩=some (.slice A0 l2.length c0)∧w'.cell? ⟨g0,1,none⟩=some (.slice (some b0) l3.length c1)∧w'.cell? (b0.add ((x0).toNat*2))=some (.int .i64 ((zv l3 x0).f0))∧w'.cell? ⟨(b0.add ((x0).toNat*2)).block,(b0.add ((x0).toNat*2)).off+1,none⟩=some (.string ((zv l3 x0).f1))) (ds:=[]) #[false,false,false,false,false,false,false,false,false,false,false] zq13 rfl rfl ⟨(zj B0.1 0).trans rfl,(zj B0.1 1).trans rfl,((HB.1.cell (z0a w _ h4)).trans h4),((HB.1.cell (z0a w _ h3)).trans h3)⟩ (fun hHeld=> ?_);refine zYa spec_SyncDisk.tab5 spec_SyncDisk.bits5 (fun HT_ HW_=> ?_)
       generalize wr.drew=w31 at O2 B0 B2 B4 HB k0 k2 hHeld ⊢
       refine zia (i:=0) (N:=some 17) (v:= ?_) (a':= ?_) #[true,false,false,false,false,false,false,false,false,false,false] rfl rfl (zQ HT_.1 zq13) (fun _ _ _ h=>h) (Or.inl ⟨zq22,zq12⟩) zq10 ?_
       refine zia (i:=2) (N:=some 19) (v:= ?_) (a':= ?_) #[true,false,true,false,false,false,false,false,false,false,false] rfl rfl (zQ HT_.1 zq13) (fun _ _ _ h=>h) (Or.inl ⟨zq22,zq12⟩) zq10 ?_
       refine zia (i:=6) (N:=some 23) (v:= ?_) (a':= ?_) #[true,false,true,false,false,false,true,false,false,false,false] rfl rfl (zQ HT_.1 zq13) (fun _ _ _ h=>h) (Or.inl ⟨zq22,zq12⟩) zq10 ?_
       refine take_ (i:=1) (N:=some 18) (v:= ?_) (a':= ?_) #[true,true,true,false,false,false,true,false,false,false,false] rfl rfl (zja HT_.1 HW_.1 zq13) (fun _ _ _ h=>h) (Or.inl ⟨zq22,zq49⟩) hHeld zq10 ?_
       refine zia (i:=3) (N:=some 20) (v:= ?_) (a':= ?_) #[true,true,true,true,false,false,true,false,false,false,false] rfl rfl (zQ HT_.1 zq13) (fun _ _ _ h=>h) (Or.inl ⟨zq22,zq12⟩) zq10 ?_
       refine zia (i:=4) (N:=some 21) (v:= ?_) (a':= ?_) #[true,true,true,true,true,false,true,false,false,false,false] rfl rfl (zQ HT_.1 zq13) (fun _ _ _ h=>h) (Or.inl ⟨zq22,zq12⟩) zq10 ?_
       refine take_ (i:=5) (N:=some 22) (v:= ?_) (a':= ?_) #[true,true,true,true,true,true,true,false,false,false,false] rfl rfl (zja HT_.1 HW_.1 zq13) (fun _ _ _ h=>h) (Or.inl ⟨zq22,zq49⟩) hHeld zq10 ?_
       refine take_ (i:=7) (N:=some 24) (v:= ?_) (a':= ?_) #[true,true,true,true,true,true,true,true,false,false,false] rfl rfl (zja HT_.1 HW_.1 zq13) (fun _ _ _ h=>h) (Or.inl ⟨zq22,zq49⟩) hHeld zq10 ?_
       refine zia (i:=8) (N:=some 25) (v:= ?_) (a':= ?_) #[true,true,true,true,true,true,true,true,true,false,false] rfl rfl (zQ HT_.1 zq13) (fun _ _ _ h=>h) (Or.inl ⟨zq22,zq12⟩) zq10 ?_
       refine zia (i:=9) (N:=some 26) (v:= ?_) (a':= ?_) #[true,true,true,true,true,true,true,true,true,true,false] rfl rfl (zQ HT_.1 zq13) (fun _ _ _ h=>h) (Or.inl ⟨zq22,zq12⟩) zq10 ?_
       refine one_ (i:=10) (N:=some 27) #[true,true,true,true,true,true,true,true,true,true,true] rfl rfl (zVa HT_.1 zq13) zq31 (fun K hK=> ?_)
       refine goes_ Tryz.func77 zq13 rfl #[.int .i64 ((zv l3 x0).f0),.int .i64 0,.int .i64 (wrap64 ((l2.length:Int)-1))] zq22 rfl rfl zq8 ?_
       with_reducible refine (spec_l01In.calls ((zv l3 x0).f0) 0 (wrap64 ((l2.length:Int)-1)) false _ A5.1).mono ?_
       rintro e w' ⟨rfl,⟨nd,rfl⟩⟩
       refine ⟨_,rfl,?_⟩
       refine hK.out _ _ ⟨(zj B0.1 0).trans rfl,(zj B0.1 1).trans rfl,((HB.1.cell (z0a w _ h4)).trans h4),((HB.1.cell (z0a w _ h3)).trans h3)⟩ (fun hHeld=> ?_)
       clear hK K
       refine zUb (a':= ?_) ?_ ?_
       rotate_left
       ·show Act.put _ (some 27) _=_
        exact zq146
       refine done_ (done_of HT_.1 zq13) ?_
       try go_wp2
       go_roundg k1
       case measure=>have:=HK1.1;omega
       case rel=>exact ⟨(wrap64 (x0+1)),(x1),(u0),zq18,H',⟨zq51 HK1.1⟩,⟨by (with_reducible repeat (first|apply Kd.R_alloc|apply Kd.R_drewN|apply Kd.R_drew));exact O2.1⟩,⟨by (with_reducible repeat (first|refine zk ?_ _|refine zl ?_|refine zh ?_ _));exact B0.1⟩,⟨by (with_reducible repeat (first|refine zk ?_ _|refine zl ?_|refine zh ?_ _));exact B2.1⟩,⟨by (with_reducible repeat (first|refine zk ?_ _|refine zl ?_|refine zh ?_ _));exact B4.1⟩,⟨zq11 G0.1 G1.1 G2.1⟩⟩
     ·rw [if_neg c14] at H
      exact absurd H zq38
    ·rw [if_neg c12] at H
     have c13:=z7 c12
     clear c12
     simp only [Option.some.injEq,Prod.mk.injEq] at H
     obtain ⟨rfl,rfl⟩:=H
     have hnb32:=N0.1
     have hnc32:=N1.1
     have hnb33:=N2.1
     have hnc33:=N3.1
     have hcz34_0:wr.cell? ⟨g0,0,none⟩=some (.slice A0 l2.length c0):=(zj B0.1 0).trans rfl
     have hcz34_1:wr.cell? ⟨g0,1,none⟩=some (.slice A1 l3.length c1):=(zj B0.1 1).trans rfl
     have hfz34_0:=zu B0.1 0
     have hfz34_1:=zu B0.1 1
     have hnb35:=N5.1
     have hnc35:=N4.1
     have hcz36_0:wr.cell? ⟨g2,0,none⟩=some (u0):=(zj B4.1 0).trans rfl
     have hcz36_1:wr.cell? ⟨g2,1,none⟩=some (.slice none 0 0):=(zj B4.1 1).trans rfl
     have hfz36_0:=zu B4.1 0
     have hfz36_1:=zu B4.1 1
     obtain ⟨A6,c24,e5⟩:=Kd.R_slice O2.1
     subst e5
     have hcz38_0:wr.cell? ⟨g1,0,none⟩=some (.slice none 0 0):=(zj B2.1 0).trans rfl
     have hcz38_1:wr.cell? ⟨g1,1,none⟩=some (.slice none 0 0):=(zj B2.1 1).trans rfl
     have hfz38_0:=zu B2.1 0
     have hfz38_1:=zu B2.1 1
     go_wp2
     refine bodyPost_ret (results_cell_row rfl _ _ g1 37 #[.slice A6 x1.length c24,.slice none 0 0] (0,0) _ rfl (by (with_reducible repeat (first|refine zk ?_ _|refine zl ?_|refine zh ?_ _));refine zW (cs:= #[.slice A6 x1.length c24,.slice none 0 0]) ?_ 1 _ rfl;(with_reducible repeat (first|refine zk ?_ _|refine zl ?_|refine zh ?_ _));refine zW (cs:= #[.slice none 0 0,.slice none 0 0]) ?_ 0 _ rfl;(with_reducible repeat (first|refine zk ?_ _|refine zl ?_|refine zh ?_ _));exact B2.1) Tryz.underlying37 rfl zq13) rfl ?_
     exact ⟨_,_,zq16,by (with_reducible repeat (first|apply Kd.R_alloc|apply Kd.R_drewN|apply Kd.R_drew));exact Kd.R_mono (Kd.R_far (p:=⟨g1,1,none⟩) (Kd.R_far (p:=⟨g1,0,none⟩) (Kd.R_types O2.1 B2.1 zq31) (fun _ hk=>hk.2) (.slice A6 x1.length c24)) (fun _ hk=>hk.2) (.slice none 0 0)) (fun _ hk=>trivial),by first|exact Kd.R_nil _ _ _ _ _|exact Kd.N_nil _ _ _ _ _|exact Kd.V_nil _ _ _ _ _|exact Kd.Q_nil _ _ _ _ _|exact Kd.S_nil _ _ _ _ _,zq11 G0.1 G1.1 G2.1⟩
 ·exact zq211
end Go.Proofs.YtonhdiemjgdcnaaGreat.PFnExactGivePage
