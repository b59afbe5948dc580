import Derived.Test.YtonhdiemjgdcnaaOA7
set_option maxHeartbeats 64000000
set_option maxRecDepth 100000
set_option linter.unusedVariables false
set_option linter.unusedSimpArgs false
namespace Go.Proofs
theorem zq36{P Q0:Prop}(q0:Q0)(h:Q0→P:=by intro q0;repeat (first|(with_reducible first|exact q0|apply IsS178.alloc|apply IsS178.drewN|apply IsS178.drew|apply IsS178.set_0|apply IsS178.set_1|apply IsS178.set_2)|exact q0)):P:=h q0
theorem zq38{P Q0:Prop}(q0:Q0)(h:Q0→P:=by intro q0;repeat (first|(with_reducible first|exact HB.1|apply zi|apply zG|apply zx|refine zD ?_ (IsS178.ge q0))|exact HB.1)):P:=h q0
theorem zq40{P:Prop}(h:P:=by (try simp only [List.map_toArray,List.map_cons,List.map_nil]);first|done|(simp only [hji4];rfl)|rfl|(simp only [List.length_drop,List.length_take];rfl)):P:=h
theorem zq43{P:Prop}(h:P:=by repeat (first|(with_reducible first|exact HK.1|apply KeepBut.set_|apply keep_drewN|apply keep_drew|apply keep_alloc)|exact HK.1)):P:=h
theorem zq45{P:Prop}(h:P:=by first|rfl|(simp;done)|(simp only [←hji8,←hji12,←hji14]<;>(first|rfl|simp))|(simp [*];done)):P:=h
theorem zq63{P:Prop}(h:P:=by (try simp only [List.map_toArray,List.map_cons,List.map_nil]);first|done|(simp only [hji6];rfl)|rfl|(simp only [List.length_drop,List.length_take];rfl)):P:=h
theorem zq64{P:Prop}(h:P:=by first|rfl|(simp [zMa,zLa]<;>rfl)|(simp only [←hji6];first|rfl|(simp [zMa,zLa]<;>rfl))|(simp [*,zMa,zLa]<;>rfl)):P:=h
theorem zq65{P:Prop}(h:P:=by first|rfl|(simp [zMa,zLa]<;>rfl)|(simp only [←hji4];first|rfl|(simp [zMa,zLa]<;>rfl))|(simp [*,zMa,zLa]<;>rfl)):P:=h
theorem zq93{P:Prop}(h:P:=by
 simp only [Option.some.injEq,Prod.mk.injEq] at H
 obtain ⟨rfl,rfl,rfl⟩:=H
 have p0:0≤((ji8):Int):=z8 zq11
 have q0:(ji8)<(a0.size:Int):=z8 zq11
 have k0:=bt_at a0 (ji8)
 replace p0:=eq_true p0
 replace q0:=eq_true q0
 go_wp2
 go_ret3
 exact ⟨zq45,zq15⟩):P:=h
theorem zq94{P:Prop}(h:P:=by
 go_enter Try.func155,Try.ntmps155
 go_wp2_with (first|(go_at_call 176;(with_reducible refine (impl_ReadVar.calls k s0_0 s0_1 t0 t1 true _ A3.1).mono ?_);rintro e w' ⟨rfl,⟨nd,rfl⟩⟩;(try first|exact ⟨rfl,_,World.drewN_drewN _ _ _⟩|exact ⟨rfl,_,Eq.trans (World.drewN_drewN _ _ _) (congrArg (World.drewN _) (Nat.add_assoc _ _ _))⟩)))
 repeat (go_quiet (first|(go_at_call 176;(with_reducible refine (impl_ReadVar.calls k s0_0 s0_1 t0 t1 true _ A3.1).mono ?_);rintro e w' ⟨rfl,⟨nd,rfl⟩⟩;(try first|exact ⟨rfl,_,World.drewN_drewN _ _ _⟩|exact ⟨rfl,_,Eq.trans (World.drewN_drewN _ _ _) (congrArg (World.drewN _) (Nat.add_assoc _ _ _))⟩)));try go_wp2_with (first|(go_at_call 176;(with_reducible refine (impl_ReadVar.calls k s0_0 s0_1 t0 t1 true _ A3.1).mono ?_);rintro e w' ⟨rfl,⟨nd,rfl⟩⟩;(try first|exact ⟨rfl,_,World.drewN_drewN _ _ _⟩|exact ⟨rfl,_,Eq.trans (World.drewN_drewN _ _ _) (congrArg (World.drewN _) (Nat.add_assoc _ _ _))⟩))))
 go_ret
 exact ⟨zq9,zq36 HI0.1,zq38 HI0.1,zq43⟩):P:=h
theorem zq97{P:Prop}(h:P:=by
 have p0:0≤(x0:Int):=z8 zq11
 have q0:x0<(l3.length:Int):=z8 zq11
 obtain ⟨b0,e0,k0,k2⟩:=zka R1.1 x0 p0 q0
 cases e0
 replace k0:=(HB.1.cell (z9 w _ k0)).trans k0
 replace k2:=(HB.1.cell (z9 w _ k2)).trans k2
 replace p0:=eq_true p0
 replace q0:=eq_true q0
 have p1:0≤(x0:Int):=z8 zq11
 have q1:x0<(l3.length:Int):=z8 zq11
 obtain ⟨b1,e1,k3,k4⟩:=zka R1.1 x0 p1 q1
 obtain rfl:b0=b1:=(by injection e1)
 replace k3:=(HB.1.cell (z9 w _ k3)).trans k3
 replace k4:=(HB.1.cell (z9 w _ k4)).trans k4
 replace p1:=eq_true p1
 replace q1:=eq_true q1
 go_wp2
 go_ret
 exact ⟨zq9,zq4 G0.1⟩):P:=h
theorem zq101{P:Prop}(h:P:=by
 have p0:0≤(x0:Int):=z8 zq11
 have q0:x0<(l3.length:Int):=z8 zq11
 obtain ⟨b0,e0,k0,k2⟩:=zka R1.1 x0 p0 q0
 cases e0
 replace k0:=(HB.1.cell (z9 w _ k0)).trans k0
 replace k2:=(HB.1.cell (z9 w _ k2)).trans k2
 replace p0:=eq_true p0
 replace q0:=eq_true q0
 go_wp2
 go_roundg k1
 case measure=>have:=HK1.1;omega
 case rel=>exact ⟨(wrap64 (x0-1)),zq10,H',⟨zq37 HK1.1⟩,⟨by (with_reducible repeat (first|refine zC ?_ _|refine zH ?_|refine zo ?_ _));exact B0.1⟩,⟨zq4 G0.1⟩⟩):P:=h
theorem zq102{P:Prop}(h:P:=by
 refine zr (i:=11) (N:=some 54) (v:= ?_) (a':= ?_) #[true,true,true,true,true,true,true,true,true,true,true,true] rfl rfl (zk HT_.1 zq8) (fun _ _ _ h=>h) (Or.inl ⟨zq19,zq5⟩) zq1 ?_
 refine done_ (done_of HT_.1 zq8) ?_
 try go_wp2
 go_ret3
 exact ⟨zq9,zq0⟩):P:=h
theorem zq104{P:Prop}(h:P:=by
 refine zr (i:=15) (N:=some 23) (v:= ?_) (a':= ?_) #[true,true,true,true,true,true,true,true,true,true,true,true,true,true,true,true,false] rfl rfl (zk HT_.1 zq8) (fun _ _ _ h=>h) (Or.inl ⟨zq19,zq5⟩) zq1 ?_
 refine zr (i:=16) (N:=some 24) (v:= ?_) (a':= ?_) #[true,true,true,true,true,true,true,true,true,true,true,true,true,true,true,true,true] rfl rfl (zk HT_.1 zq8) (fun _ _ _ h=>h) (Or.inl ⟨zq19,zq5⟩) zq1 ?_
 refine done_ (done_of HT_.1 zq8) ?_
 try go_wp2
 go_ret2
 exact ⟨zq64,zq0⟩):P:=h
theorem zq106{P:Prop}(h:P:=by
 refine zr (i:=11) (N:=some 19) (v:= ?_) (a':= ?_) #[true,true,true,true,true,true,true,true,true,true,true,true,false] rfl rfl (zk HT_.1 zq8) (fun _ _ _ h=>h) (Or.inl ⟨zq19,zq5⟩) zq1 ?_
 refine zr (i:=12) (N:=some 20) (v:= ?_) (a':= ?_) #[true,true,true,true,true,true,true,true,true,true,true,true,true] rfl rfl (zk HT_.1 zq8) (fun _ _ _ h=>h) (Or.inl ⟨zq19,zq5⟩) zq1 ?_
 refine done_ (done_of HT_.1 zq8) ?_
 try go_wp2
 go_ret2
 exact ⟨zq65,zq0⟩):P:=h
theorem zq123{P:Prop}(h:P:=by
 refine zr (i:=16) (N:=some 24) (v:= ?_) (a':= ?_) #[true,true,true,true,true,true,true,true,true,true,true,true,true,true,true,true,true] rfl rfl (zk HT_.1 zq8) (fun _ _ _ h=>h) (Or.inl ⟨zq19,zq5⟩) zq1 ?_
 refine done_ (done_of HT_.1 zq8) ?_
 try go_wp2
 go_ret2
 exact ⟨zq9,zq0⟩):P:=h
theorem zq124{P:Prop}(h:P:=by
 refine zr (i:=5) (N:=some 13) (v:= ?_) (a':= ?_) #[true,true,true,true,true,true,false,false,false,false,false,false,false,false,false,false,false] rfl rfl (zk HT_.1 zq8) (fun _ _ _ h=>h) (Or.inl ⟨zq19,zq5⟩) zq1 ?_
 refine zr (i:=6) (N:=some 14) (v:= ?_) (a':= ?_) #[true,true,true,true,true,true,true,false,false,false,false,false,false,false,false,false,false] rfl rfl (zk HT_.1 zq8) (fun _ _ _ h=>h) (Or.inl ⟨zq19,zq5⟩) zq1 ?_
 refine zr (i:=7) (N:=some 15) (v:=undef) (a':= ?_) #[true,true,true,true,true,true,true,true,false,false,false,false,false,false,false,false,false] rfl rfl (zk HT_.1 zq8) (fun _ _ _ h=>h) (Or.inr ⟨zq19,rfl⟩) ?_ ?_
 rotate_left
 ·exact zq86
 refine zr (i:=8) (N:=some 16) (v:=undef) (a':= ?_) #[true,true,true,true,true,true,true,true,true,false,false,false,false,false,false,false,false] rfl rfl (zk HT_.1 zq8) (fun _ _ _ h=>h) (Or.inr ⟨zq19,rfl⟩) ?_ ?_
 rotate_left
 ·exact zq86
 refine zr (i:=9) (N:=some 17) (v:=undef) (a':= ?_) #[true,true,true,true,true,true,true,true,true,true,false,false,false,false,false,false,false] rfl rfl (zk HT_.1 zq8) (fun _ _ _ h=>h) (Or.inr ⟨zq19,rfl⟩) ?_ ?_
 rotate_left
 ·exact zq86
 refine zr (i:=10) (N:=some 18) (v:=undef) (a':= ?_) #[true,true,true,true,true,true,true,true,true,true,true,false,false,false,false,false,false] rfl rfl (zk HT_.1 zq8) (fun _ _ _ h=>h) (Or.inr ⟨zq19,rfl⟩) ?_ ?_
 rotate_left
 ·exact zq86
 refine zr (i:=11) (N:=some 19) (v:=undef) (a':= ?_) #[true,true,true,true,true,true,true,true,true,true,true,true,false,false,false,false,false] rfl rfl (zk HT_.1 zq8) (fun _ _ _ h=>h) (Or.inr ⟨zq19,rfl⟩) ?_ ?_
 rotate_left
 ·exact zq86
 refine zr (i:=12) (N:=some 20) (v:=undef) (a':= ?_) #[true,true,true,true,true,true,true,true,true,true,true,true,true,false,false,false,false] rfl rfl (zk HT_.1 zq8) (fun _ _ _ h=>h) (Or.inr ⟨zq19,rfl⟩) ?_ ?_
 rotate_left
 ·exact zq86
 refine zr (i:=13) (N:=some 21) (v:=undef) (a':= ?_) #[true,true,true,true,true,true,true,true,true,true,true,true,true,true,false,false,false] rfl rfl (zk HT_.1 zq8) (fun _ _ _ h=>h) (Or.inr ⟨zq19,rfl⟩) ?_ ?_
 rotate_left
 ·exact zq86
 refine zr (i:=14) (N:=some 22) (v:=undef) (a':= ?_) #[true,true,true,true,true,true,true,true,true,true,true,true,true,true,true,false,false] rfl rfl (zk HT_.1 zq8) (fun _ _ _ h=>h) (Or.inr ⟨zq19,rfl⟩) ?_ ?_
 rotate_left
 ·exact zq86
 refine zr (i:=15) (N:=some 23) (v:=undef) (a':= ?_) #[true,true,true,true,true,true,true,true,true,true,true,true,true,true,true,true,false] rfl rfl (zk HT_.1 zq8) (fun _ _ _ h=>h) (Or.inr ⟨zq19,rfl⟩) ?_ ?_
 rotate_left
 ·exact zq86
 exact zq123):P:=h
theorem zq127{P:Prop}(h:P:=by
 refine ⟨_,rfl,?_⟩
 have n0:=zz (zf zq0 hb)
 clear HB
 have HB:=n0
 clear n0
 (try clear hb)
 (try clear hb2)
 (try clear hk)
 (try clear hi)
 refine hK.out _ _ trivial (fun hHeld=> ?_)
 clear hK K
 refine norm_ (a':= ?_) ?_ ?_
 rotate_left
 ·show Act.put _ (some 47) _=_
  exact zq86
 refine zr (i:=10) (N:=some 53) (v:= ?_) (a':= ?_) #[true,true,true,true,true,true,true,true,true,true,true,false] rfl rfl (zk HT_.1 zq8) (fun _ _ _ h=>h) (Or.inl ⟨zq19,zq5⟩) zq1 ?_
 exact zq102):P:=h
theorem zq129{P:Prop}(h:P:=by
 refine ⟨_,rfl,?_⟩
 have n0:=zz (zf zq0 hb)
 clear HB
 have HB:=n0
 clear n0
 (try clear hb)
 (try clear hb2)
 (try clear hk)
 (try clear hi)
 refine hK.out _ _ trivial (fun hHeld=> ?_)
 clear hK K
 refine norm_ (a':= ?_) ?_ ?_
 rotate_left
 ·show Act.put _ (some 22) _=_
  exact zq86
 exact zq104):P:=h
theorem zq130{P:Prop}(h:P:=by
 refine ⟨_,rfl,?_⟩
 have n0:=zz (zf zq0 hb)
 clear HB
 have HB:=n0
 clear n0
 (try clear hb)
 (try clear hb2)
 (try clear hk)
 (try clear hi)
 refine hK.out _ _ trivial (fun hHeld=> ?_)
 clear hK K
 refine norm_ (a':= ?_) ?_ ?_
 rotate_left
 ·show Act.put _ (some 18) _=_
  exact zq86
 exact zq106):P:=h
theorem zq134{P:Prop}(h:P:=by
 repeat' first
   |(with_reducible exact ih0 _ _ _ _)
   |(with_reducible exact LeO.refl _)
   |(with_reducible exact LeO.none _)
   |(with_reducible refine LeO.ite ?_ ?_)
   |(with_reducible refine LeO.bind ?_ (fun _=> ?_))
   |exact ih0 _ _ _ _):P:=h
theorem zq136{P:Prop}(h:P:=by
 repeat' first
 |(with_reducible exact ih0 _ _ _ _)
 |(with_reducible exact LeO.refl _)
 |(with_reducible exact LeO.none _)
 |(with_reducible refine LeO.ite ?_ ?_)
 |(with_reducible refine LeO.bind ?_ (fun _=> ?_))
 |exact ih0 _ _ _ _):P:=h
theorem zq156{P:Prop}(h:P:=by
 cases e2
 replace k5:=(HB.1.cell (z9 w _ k5)).trans k5
 replace p2:=eq_true p2
 replace q2:=eq_true q2
 go_wp2
 exact zq115):P:=h
end Go.Proofs
namespace Go.Proofs.Ytonhdiemjgdcnaa.PFnExactGivePage
open Go.RowKit Go.Proofs.YtonhdiemjgdcnaaW.PrintWords Go.Proofs.YtonhdiemjgdcnaaW.PrintLast Go.Proofs.YtonhdiemjgdcnaaW.PrintMore
attribute [local go_sem] zV zU zia zha zP zN zS zT
def spec_Unsealed.f (k:Nat) (a0:ByteArray):Option (ByteArray×Bool):=if (wrap64 ((a0.size:Int)-4))<0 then (some ((⟨#[]⟩:ByteArray),false)) else (if (wrap64 ((a0.size:Int)-4))>20000 then (some ((⟨#[]⟩:ByteArray),false)) else (if 0≤(wrap64 ((a0.size:Int)-4)) then (if (wrap64 ((a0.size:Int)-4))≤(a0.size:Int) then ((spec_SumOf.f k (a0.extract 0 ((wrap64 ((a0.size:Int)-4)):Int).toNat)).bind fun t124=>((spec_l02Four.f t124).bind fun t125=>(if (a0.extract ((wrap64 ((a0.size:Int)-4)):Int).toNat a0.size).toList=t125.toList then (some (a0.extract 0 ((wrap64 ((a0.size:Int)-4)):Int).toNat,true)) else (some ((⟨#[]⟩:ByteArray),false))))) else (none)) else (none)))
def spec_Unsealed.T2:Bool×List (List Nat×List Nat):=(true,[([],[]),([0],[0]),([1],[1]),([2],[2]),([3,2],[2,3]),([2,4],[2,4]),([5,2],[5]),([6],[6]),([6],[6]),([7,8,6],[6,7,8]),([6],[6]),([6],[6]),([10,11,6],[6,10,11]),([12,6,6],[6,12]),([13,13,6],[6,13]),([9,14,6],[6,9,14]),([6,15],[6,15])])
def spec_Unsealed.B2:List Nat:=[0,1,3,7,15,31,63,127,127,511,127,127,3199,7295,15487,32767,65535]
theorem spec_Unsealed.tab2:rtab .any (zgb Try.f152 2)=spec_Unsealed.T2:=zq8
theorem spec_Unsealed.bits2:zqa spec_Unsealed.T2.2 spec_Unsealed.B2=true:=zq8
theorem spec_Unsealed.calls (k:Nat) (a0:ByteArray) (r1:ByteArray) (r2:Bool) (w:World) (h:spec_Unsealed.f k a0=some (r1,r2)):
  Calls Try.prog 152 #[.string a0] w fun e w'=>e= .returned (.tuple #[.string r1,.bool r2])∧Below w.heap.size w w':=by
 have HB:=zz (z0a w.heap.size w)
 have H:(if (wrap64 ((a0.size:Int)-4))<0 then (some ((⟨#[]⟩:ByteArray),false)) else (if (wrap64 ((a0.size:Int)-4))>20000 then (some ((⟨#[]⟩:ByteArray),false)) else (if 0≤(wrap64 ((a0.size:Int)-4)) then (if (wrap64 ((a0.size:Int)-4))≤(a0.size:Int) then ((spec_SumOf.f k (a0.extract 0 ((wrap64 ((a0.size:Int)-4)):Int).toNat)).bind fun t0=>((spec_l02Four.f t0).bind fun t1=>(if (a0.extract ((wrap64 ((a0.size:Int)-4)):Int).toNat a0.size).toList=t1.toList then (some (a0.extract 0 ((wrap64 ((a0.size:Int)-4)):Int).toNat,true)) else (some ((⟨#[]⟩:ByteArray),false))))) else (none)) else (none))))=some (r1,r2):=h
 clear h
 by_cases c2:(wrap64 ((a0.size:Int)-4))<0
 ·rw [if_pos c2] at H
  have c2b0:=z6 c2
  clear c2
  simp only [Option.some.injEq,Prod.mk.injEq] at H
  obtain ⟨rfl,rfl⟩:=H
  go_enter Try.func152,Try.ntmps152
  try go_wp2
  have n0:=zz (zx HB.1)
  clear HB
  have HB:=n0
  clear n0
  refine zGa (n:=17) (S:=fun w'=>True) (ds:=[]) #[false,false,false,false,false,false,false,false,false,false,false,false,false,false,false,false,false] zq8 rfl rfl trivial (fun hHeld=> ?_);refine zW spec_Unsealed.tab2 spec_Unsealed.bits2 (fun HT_ HW_=> ?_)
  generalize w.drew=w3 at HB hHeld ⊢
  refine zr (i:=0) (N:=some 8) (v:= ?_) (a':= ?_) #[true,false,false,false,false,false,false,false,false,false,false,false,false,false,false,false,false] rfl rfl (zk HT_.1 zq8) (fun _ _ _ h=>h) (Or.inl ⟨zq19,zq5⟩) zq1 ?_
  refine zr (i:=1) (N:=some 9) (v:= ?_) (a':= ?_) #[true,true,false,false,false,false,false,false,false,false,false,false,false,false,false,false,false] rfl rfl (zk HT_.1 zq8) (fun _ _ _ h=>h) (Or.inl ⟨zq19,zq5⟩) zq1 ?_
  refine zr (i:=2) (N:=some 10) (v:= ?_) (a':= ?_) #[true,true,true,false,false,false,false,false,false,false,false,false,false,false,false,false,false] rfl rfl (zk HT_.1 zq8) (fun _ _ _ h=>h) (Or.inl ⟨zq19,zq5⟩) zq1 ?_
  refine zr (i:=3) (N:=some 11) (v:=undef) (a':= ?_) #[true,true,true,true,false,false,false,false,false,false,false,false,false,false,false,false,false] rfl rfl (zk HT_.1 zq8) (fun _ _ _ h=>h) (Or.inr ⟨zq19,rfl⟩) ?_ ?_
  rotate_left
  ·exact zq86
  refine zr (i:=4) (N:=some 12) (v:=undef) (a':= ?_) #[true,true,true,true,true,false,false,false,false,false,false,false,false,false,false,false,false] rfl rfl (zk HT_.1 zq8) (fun _ _ _ h=>h) (Or.inr ⟨zq19,rfl⟩) ?_ ?_
  rotate_left
  ·exact zq86
  exact zq124
 ·rw [if_neg c2] at H
  have c2b0:=z7 c2
  clear c2
  by_cases c4:(wrap64 ((a0.size:Int)-4))>20000
  ·rw [if_pos c4] at H
   have c4b0:decide (20000<(wrap64 ((a0.size:Int)-4)))=true:=z6 c4
   clear c4
   simp only [Option.some.injEq,Prod.mk.injEq] at H
   obtain ⟨rfl,rfl⟩:=H
   go_enter Try.func152,Try.ntmps152
   try go_wp2
   have n0:=zz (zx HB.1)
   clear HB
   have HB:=n0
   clear n0
   refine zGa (n:=17) (S:=fun w'=>True) (ds:=[]) #[false,false,false,false,false,false,false,false,false,false,false,false,false,false,false,false,false] zq8 rfl rfl trivial (fun hHeld=> ?_);refine zW spec_Unsealed.tab2 spec_Unsealed.bits2 (fun HT_ HW_=> ?_)
   generalize w.drew=w5 at HB hHeld ⊢
   refine zr (i:=0) (N:=some 8) (v:= ?_) (a':= ?_) #[true,false,false,false,false,false,false,false,false,false,false,false,false,false,false,false,false] rfl rfl (zk HT_.1 zq8) (fun _ _ _ h=>h) (Or.inl ⟨zq19,zq5⟩) zq1 ?_
   refine zr (i:=1) (N:=some 9) (v:= ?_) (a':= ?_) #[true,true,false,false,false,false,false,false,false,false,false,false,false,false,false,false,false] rfl rfl (zk HT_.1 zq8) (fun _ _ _ h=>h) (Or.inl ⟨zq19,zq5⟩) zq1 ?_
   refine zr (i:=2) (N:=some 10) (v:= ?_) (a':= ?_) #[true,true,true,false,false,false,false,false,false,false,false,false,false,false,false,false,false] rfl rfl (zk HT_.1 zq8) (fun _ _ _ h=>h) (Or.inl ⟨zq19,zq5⟩) zq1 ?_
   refine zr (i:=3) (N:=some 11) (v:= ?_) (a':= ?_) #[true,true,true,true,false,false,false,false,false,false,false,false,false,false,false,false,false] rfl rfl (zk HT_.1 zq8) (fun _ _ _ h=>h) (Or.inl ⟨zq19,zq5⟩) zq1 ?_
   refine zr (i:=4) (N:=some 12) (v:= ?_) (a':= ?_) #[true,true,true,true,true,false,false,false,false,false,false,false,false,false,false,false,false] rfl rfl (zk HT_.1 zq8) (fun _ _ _ h=>h) (Or.inl ⟨zq19,zq5⟩) zq1 ?_
   exact zq124
  ·rw [if_neg c4] at H
   have c4b0:decide (20000<(wrap64 ((a0.size:Int)-4)))=false:=z7 c4
   clear c4
   obtain ⟨ji6,hji6⟩:∃j_:Int,(wrap64 ((a0.size:Int)-4))=j_:=⟨_,rfl⟩
   replace H:(if 0≤(ji6) then (if (ji6)≤(a0.size:Int) then ((spec_SumOf.f k (a0.extract 0 ((ji6):Int).toNat)).bind fun t0=>((spec_l02Four.f t0).bind fun t1=>(if (a0.extract ((ji6):Int).toNat a0.size).toList=t1.toList then (some (a0.extract 0 ((ji6):Int).toNat,true)) else (some ((⟨#[]⟩:ByteArray),false))))) else (none)) else (none))=some (r1,r2):=by first|(rw [hji6] at H;exact H)|(simp only [hji6] at H ⊢;exact H)
   (try rw [hji6] at c2b0)
   (try rw [hji6] at c4b0)
   have hji6w:(IntKind.i64.wrap ((a0.size:Int)-4))=ji6:=(zxa _).trans hji6
   by_cases c7:0≤(ji6)
   ·rw [if_pos c7] at H
    have c7b0:=eq_true c7
    have c7b1:=z6 c7
    clear c7
    by_cases c8:(ji6)≤(a0.size:Int)
    ·rw [if_pos c8] at H
     have c8b0:=eq_true c8
     have c8b1:=z6 c8
     clear c8
     have c9b0:=eq_true (z8 zq11:0≤(ji6))
     have c10b0:=eq_true (z8 zq11:(ji6)≤(a0.size:Int))
     replace H:=z1a H
     obtain ⟨t0,A0,H⟩:=H
     replace H:((spec_l02Four.f t0).bind fun t1=>(if (a0.extract ((ji6):Int).toNat a0.size).toList=t1.toList then (some (a0.extract 0 ((ji6):Int).toNat,true)) else (some ((⟨#[]⟩:ByteArray),false))))=some (r1,r2):=H
     have A1:=zz A0
     clear A0
     replace H:=z1a H
     obtain ⟨t1,A2,H⟩:=H
     replace H:(if (a0.extract ((ji6):Int).toNat a0.size).toList=t1.toList then (some (a0.extract 0 ((ji6):Int).toNat,true)) else (some ((⟨#[]⟩:ByteArray),false)))=some (r1,r2):=H
     have A3:=zz A2
     clear A2
     by_cases c0:(a0.extract ((ji6):Int).toNat a0.size).toList=t1.toList
     ·rw [if_pos c0] at H
      have c1:((a0.extract ((ji6):Int).toNat a0.size).toList==t1.toList)=true:=beq_iff_eq.mpr c0
      have c11:((a0.extract ((ji6):Int).toNat a0.size).toList !=t1.toList)=false:=bne_eq_false_iff_eq.mpr c0
      clear c0
      have c14b0:=eq_true (z8 zq11:0≤(ji6))
      have c15b0:=eq_true (z8 zq11:(ji6)≤(a0.size:Int))
      simp only [Option.some.injEq,Prod.mk.injEq] at H
      obtain ⟨rfl,rfl⟩:=H
      go_enter Try.func152,Try.ntmps152
      try go_wp2
      have n0:=zz (zx HB.1)
      clear HB
      have HB:=n0
      clear n0
      refine zGa (n:=17) (S:=fun w'=>True) (ds:=[]) #[false,false,false,false,false,false,false,false,false,false,false,false,false,false,false,false,false] zq8 rfl rfl trivial (fun hHeld=> ?_);refine zW spec_Unsealed.tab2 spec_Unsealed.bits2 (fun HT_ HW_=> ?_)
      generalize w.drew=w16 at HB hHeld ⊢
      refine zr (i:=0) (N:=some 8) (v:= ?_) (a':= ?_) #[true,false,false,false,false,false,false,false,false,false,false,false,false,false,false,false,false] rfl rfl (zk HT_.1 zq8) (fun _ _ _ h=>h) (Or.inl ⟨zq19,zq5⟩) zq1 ?_
      refine zr (i:=1) (N:=some 9) (v:= ?_) (a':= ?_) #[true,true,false,false,false,false,false,false,false,false,false,false,false,false,false,false,false] rfl rfl (zk HT_.1 zq8) (fun _ _ _ h=>h) (Or.inl ⟨zq19,zq5⟩) zq1 ?_
      refine zr (i:=2) (N:=some 10) (v:= ?_) (a':= ?_) #[true,true,true,false,false,false,false,false,false,false,false,false,false,false,false,false,false] rfl rfl (zk HT_.1 zq8) (fun _ _ _ h=>h) (Or.inl ⟨zq19,zq5⟩) zq1 ?_
      refine zr (i:=3) (N:=some 11) (v:= ?_) (a':= ?_) #[true,true,true,true,false,false,false,false,false,false,false,false,false,false,false,false,false] rfl rfl (zk HT_.1 zq8) (fun _ _ _ h=>h) (Or.inl ⟨zq19,zq5⟩) zq1 ?_
      refine zr (i:=4) (N:=some 12) (v:= ?_) (a':= ?_) #[true,true,true,true,true,false,false,false,false,false,false,false,false,false,false,false,false] rfl rfl (zk HT_.1 zq8) (fun _ _ _ h=>h) (Or.inl ⟨zq19,zq5⟩) zq1 ?_
      refine zr (i:=5) (N:=some 13) (v:= ?_) (a':= ?_) #[true,true,true,true,true,true,false,false,false,false,false,false,false,false,false,false,false] rfl rfl (zk HT_.1 zq8) (fun _ _ _ h=>h) (Or.inl ⟨zq19,zq5⟩) zq1 ?_
      refine zr (i:=6) (N:=some 14) (v:= ?_) (a':= ?_) #[true,true,true,true,true,true,true,false,false,false,false,false,false,false,false,false,false] rfl rfl (zk HT_.1 zq8) (fun _ _ _ h=>h) (Or.inl ⟨zq19,zq5⟩) zq1 ?_
      refine zr (i:=7) (N:=some 15) (v:= ?_) (a':= ?_) #[true,true,true,true,true,true,true,true,false,false,false,false,false,false,false,false,false] rfl rfl (zk HT_.1 zq8) (fun _ _ _ h=>h) (Or.inl ⟨zq19,zq5⟩) zq1 ?_
      refine zr (i:=8) (N:=some 16) (v:= ?_) (a':= ?_) #[true,true,true,true,true,true,true,true,true,false,false,false,false,false,false,false,false] rfl rfl (zk HT_.1 zq8) (fun _ _ _ h=>h) (Or.inl ⟨zq19,zq5⟩) zq1 ?_
      refine zr (i:=9) (N:=some 17) (v:= ?_) (a':= ?_) #[true,true,true,true,true,true,true,true,true,true,false,false,false,false,false,false,false] rfl rfl (zk HT_.1 zq8) (fun _ _ _ h=>h) (Or.inl ⟨zq19,zq5⟩) zq1 ?_
      refine zr (i:=10) (N:=some 18) (v:= ?_) (a':= ?_) #[true,true,true,true,true,true,true,true,true,true,true,false,false,false,false,false,false] rfl rfl (zk HT_.1 zq8) (fun _ _ _ h=>h) (Or.inl ⟨zq19,zq5⟩) zq1 ?_
      refine zr (i:=11) (N:=some 19) (v:= ?_) (a':= ?_) #[true,true,true,true,true,true,true,true,true,true,true,true,false,false,false,false,false] rfl rfl (zk HT_.1 zq8) (fun _ _ _ h=>h) (Or.inl ⟨zq19,zq5⟩) zq1 ?_
      refine zr (i:=12) (N:=some 20) (v:= ?_) (a':= ?_) #[true,true,true,true,true,true,true,true,true,true,true,true,true,false,false,false,false] rfl rfl (zk HT_.1 zq8) (fun _ _ _ h=>h) (Or.inl ⟨zq19,zq5⟩) zq1 ?_
      refine one_ (i:=13) (N:=some 21) #[true,true,true,true,true,true,true,true,true,true,true,true,true,true,false,false,false] rfl rfl (zpa HT_.1 zq8) zq32 (fun K hK=> ?_)
      refine zjb Try.func148 zq8 rfl #[.string (a0.extract 0 ((ji6):Int).toNat)] zq19 rfl rfl zq63 ?_
      with_reducible refine (spec_SumOf.calls k (a0.extract 0 ((ji6):Int).toNat) t0 _ A1.1).mono ?_
      rintro e w' ⟨rfl,⟨nd,rfl⟩⟩
      refine ⟨_,rfl,?_⟩
      refine hK.out _ _ trivial (fun hHeld=> ?_)
      clear hK K
      refine norm_ (a':= ?_) ?_ ?_
      rotate_left
      ·show Act.put _ (some 21) _=_
       exact zq86
      refine one_ (i:=14) (N:=some 22) #[true,true,true,true,true,true,true,true,true,true,true,true,true,true,true,false,false] rfl rfl (zpa HT_.1 zq8) zq32 (fun K hK=> ?_)
      refine zjb Try.func147 zq8 rfl #[.int .u32 t0] zq19 rfl rfl zq6 ?_
      with_reducible refine (spec_l02Four.calls t0 t1 _ A3.1).mono ?_
      rintro e w17 ⟨rfl,hb⟩
      exact zq129
     ·rw [if_neg c0] at H
      have c1:((a0.extract ((ji6):Int).toNat a0.size).toList==t1.toList)=false:=beq_eq_false_iff_ne.mpr c0
      have c11:((a0.extract ((ji6):Int).toNat a0.size).toList !=t1.toList)=true:=bne_iff_ne.mpr c0
      simp only [Option.some.injEq,Prod.mk.injEq] at H
      obtain ⟨rfl,rfl⟩:=H
      go_enter Try.func152,Try.ntmps152
      try go_wp2
      have n0:=zz (zx HB.1)
      clear HB
      have HB:=n0
      clear n0
      refine zGa (n:=17) (S:=fun w'=>True) (ds:=[]) #[false,false,false,false,false,false,false,false,false,false,false,false,false,false,false,false,false] zq8 rfl rfl trivial (fun hHeld=> ?_);refine zW spec_Unsealed.tab2 spec_Unsealed.bits2 (fun HT_ HW_=> ?_)
      generalize w.drew=w18 at HB hHeld ⊢
      refine zr (i:=0) (N:=some 8) (v:= ?_) (a':= ?_) #[true,false,false,false,false,false,false,false,false,false,false,false,false,false,false,false,false] rfl rfl (zk HT_.1 zq8) (fun _ _ _ h=>h) (Or.inl ⟨zq19,zq5⟩) zq1 ?_
      refine zr (i:=1) (N:=some 9) (v:= ?_) (a':= ?_) #[true,true,false,false,false,false,false,false,false,false,false,false,false,false,false,false,false] rfl rfl (zk HT_.1 zq8) (fun _ _ _ h=>h) (Or.inl ⟨zq19,zq5⟩) zq1 ?_
      refine zr (i:=2) (N:=some 10) (v:= ?_) (a':= ?_) #[true,true,true,false,false,false,false,false,false,false,false,false,false,false,false,false,false] rfl rfl (zk HT_.1 zq8) (fun _ _ _ h=>h) (Or.inl ⟨zq19,zq5⟩) zq1 ?_
      refine zr (i:=3) (N:=some 11) (v:= ?_) (a':= ?_) #[true,true,true,true,false,false,false,false,false,false,false,false,false,false,false,false,false] rfl rfl (zk HT_.1 zq8) (fun _ _ _ h=>h) (Or.inl ⟨zq19,zq5⟩) zq1 ?_
      refine zr (i:=4) (N:=some 12) (v:= ?_) (a':= ?_) #[true,true,true,true,true,false,false,false,false,false,false,false,false,false,false,false,false] rfl rfl (zk HT_.1 zq8) (fun _ _ _ h=>h) (Or.inl ⟨zq19,zq5⟩) zq1 ?_
      refine zr (i:=5) (N:=some 13) (v:= ?_) (a':= ?_) #[true,true,true,true,true,true,false,false,false,false,false,false,false,false,false,false,false] rfl rfl (zk HT_.1 zq8) (fun _ _ _ h=>h) (Or.inl ⟨zq19,zq5⟩) zq1 ?_
      refine zr (i:=6) (N:=some 14) (v:= ?_) (a':= ?_) #[true,true,true,true,true,true,true,false,false,false,false,false,false,false,false,false,false] rfl rfl (zk HT_.1 zq8) (fun _ _ _ h=>h) (Or.inl ⟨zq19,zq5⟩) zq1 ?_
      refine zr (i:=7) (N:=some 15) (v:= ?_) (a':= ?_) #[true,true,true,true,true,true,true,true,false,false,false,false,false,false,false,false,false] rfl rfl (zk HT_.1 zq8) (fun _ _ _ h=>h) (Or.inl ⟨zq19,zq5⟩) zq1 ?_
      refine zr (i:=8) (N:=some 16) (v:= ?_) (a':= ?_) #[true,true,true,true,true,true,true,true,true,false,false,false,false,false,false,false,false] rfl rfl (zk HT_.1 zq8) (fun _ _ _ h=>h) (Or.inl ⟨zq19,zq5⟩) zq1 ?_
      refine zr (i:=9) (N:=some 17) (v:= ?_) (a':= ?_) #[true,true,true,true,true,true,true,true,true,true,false,false,false,false,false,false,false] rfl rfl (zk HT_.1 zq8) (fun _ _ _ h=>h) (Or.inl ⟨zq19,zq5⟩) zq1 ?_
      refine zr (i:=10) (N:=some 18) (v:= ?_) (a':= ?_) #[true,true,true,true,true,true,true,true,true,true,true,false,false,false,false,false,false] rfl rfl (zk HT_.1 zq8) (fun _ _ _ h=>h) (Or.inl ⟨zq19,zq5⟩) zq1 ?_
      refine zr (i:=11) (N:=some 19) (v:= ?_) (a':= ?_) #[true,true,true,true,true,true,true,true,true,true,true,true,false,false,false,false,false] rfl rfl (zk HT_.1 zq8) (fun _ _ _ h=>h) (Or.inl ⟨zq19,zq5⟩) zq1 ?_
      refine zr (i:=12) (N:=some 20) (v:= ?_) (a':= ?_) #[true,true,true,true,true,true,true,true,true,true,true,true,true,false,false,false,false] rfl rfl (zk HT_.1 zq8) (fun _ _ _ h=>h) (Or.inl ⟨zq19,zq5⟩) zq1 ?_
      refine one_ (i:=13) (N:=some 21) #[true,true,true,true,true,true,true,true,true,true,true,true,true,true,false,false,false] rfl rfl (zpa HT_.1 zq8) zq32 (fun K hK=> ?_)
      refine zjb Try.func148 zq8 rfl #[.string (a0.extract 0 ((ji6):Int).toNat)] zq19 rfl rfl zq63 ?_
      with_reducible refine (spec_SumOf.calls k (a0.extract 0 ((ji6):Int).toNat) t0 _ A1.1).mono ?_
      rintro e w' ⟨rfl,⟨nd,rfl⟩⟩
      refine ⟨_,rfl,?_⟩
      refine hK.out _ _ trivial (fun hHeld=> ?_)
      clear hK K
      refine norm_ (a':= ?_) ?_ ?_
      rotate_left
      ·show Act.put _ (some 21) _=_
       exact zq86
      refine one_ (i:=14) (N:=some 22) #[true,true,true,true,true,true,true,true,true,true,true,true,true,true,true,false,false] rfl rfl (zpa HT_.1 zq8) zq32 (fun K hK=> ?_)
      refine zjb Try.func147 zq8 rfl #[.int .u32 t0] zq19 rfl rfl zq6 ?_
      with_reducible refine (spec_l02Four.calls t0 t1 _ A3.1).mono ?_
      rintro e w19 ⟨rfl,hb⟩
      exact zq129
    ·exact zq158
   ·exact zq141
mutual
def spec_ReadVar.l0:Nat→ByteArray→Int→Int→Int→Int→Option (Int×Int×Bool)
 |0,_,_,_,_,_=>none
 |k+1,x0,x1,x7,x8,x9=>if x9<(x0.size:Int) then (spec_ReadVar.j1 k x0 x1 x7 x8 x9 (decide (x9<(wrap64 (x1+5))))) else (spec_ReadVar.j1 k x0 x1 x7 x8 x9 false)
def spec_ReadVar.j1:Nat→ByteArray→Int→Int→Int→Int→Bool→Option (Int×Int×Bool)
 |0,_,_,_,_,_,_=>none
 |k+1,x0,x1,x7,x8,x9,x25=>if x25=true then (if 0≤x9 then (if x9<(x0.size:Int) then (if (bt x0 x9)<128 then (if (wrap64 (x7+(wrap64 ((Int.tmod (wrap64 (bt x0 x9)) 128)*x8))))>1000000000 then (some (0,0,false)) else ((spec_l01Var.f k (wrap64 (x7+(wrap64 ((Int.tmod (wrap64 (bt x0 x9)) 128)*x8))))).bind fun t127=>(if 0≤x1 then (if x1≤(wrap64 (x9+1)) then (if (wrap64 (x9+1))≤(x0.size:Int) then (if t127.toList=(x0.extract (x1:Int).toNat ((wrap64 (x9+1)):Int).toNat).toList then (some (wrap64 (x7+(wrap64 ((Int.tmod (wrap64 (bt x0 x9)) 128)*x8))),wrap64 (x9+1),true)) else (some (0,0,false))) else (none)) else (none)) else (none)))) else (spec_ReadVar.l0 k x0 x1 (wrap64 (x7+(wrap64 ((Int.tmod (wrap64 (bt x0 x9)) 128)*x8)))) (wrap64 (x8*128)) (wrap64 (x9+1)))) else (none)) else (none)) else (some (0,0,false))
end
def spec_ReadVar.f (k:Nat) (a0:ByteArray) (a1:Int):Option (Int×Int×Bool):=(spec_l01In.f a1 0 (a0.size:Int)).bind fun t126=>(if t126=true then (spec_ReadVar.l0 k a0 a1 0 1 a1) else (some (0,0,false)))
def spec_ReadVar.T11:Bool×List (List Nat×List Nat):=(true,[([],[]),([0],[0]),([1],[1]),([2],[2]),([3,2,2],[2,3]),([2],[2]),([2],[2]),([2],[2]),([7,2],[2,7]),([5,6,8,2],[2,5,6,8]),([4,9,2],[2,4,9]),([2,10],[2,10])])
def spec_ReadVar.B11:List Nat:=[0,1,3,7,15,7,7,7,135,487,1023,2047]
theorem spec_ReadVar.tab11:rtab .any (zgb Try.f175 11)=spec_ReadVar.T11:=zq8
theorem spec_ReadVar.bits11:zqa spec_ReadVar.T11.2 spec_ReadVar.B11=true:=zq8
theorem spec_ReadVar.calls (k:Nat) (a0:ByteArray) (a1:Int) (r1:Int) (r2:Int) (r3:Bool) (w:World) (h:spec_ReadVar.f k a0 a1=some (r1,r2,r3)):
  Calls Try.prog 175 #[.string a0,.int .i64 a1] w fun e w'=>e= .returned (.tuple #[.int .i64 r1,.int .i64 r2,.bool r3])∧Below w.heap.size w w':=by
 have HB:=zz (z0a w.heap.size w)
 have H:((spec_l01In.f a1 0 (a0.size:Int)).bind fun t0=>(if t0=true then (spec_ReadVar.l0 k a0 a1 0 1 a1) else (some (0,0,false))))=some (r1,r2,r3):=h
 clear h
 replace H:=z1a H
 obtain ⟨t0,A0,H⟩:=H
 replace H:(if t0=true then (spec_ReadVar.l0 k a0 a1 0 1 a1) else (some (0,0,false)))=some (r1,r2,r3):=H
 have A3:=zz A0
 clear A0
 by_cases c4:t0=true
 ·subst c4
  rw [if_pos rfl] at H
  have H':=zz H
  clear H
  go_enter Try.func175,Try.ntmps175
  go_wp2_with (first|((with_reducible refine zn (f:=108) rfl ?_);refine zQ (some 13) rfl rfl Try.func108 zq8 rfl #[.int .i64 a1,.int .i64 0,.int .i64 (a0.size:Int)] rfl zq6 ?_;(with_reducible refine (spec_l01In.calls a1 0 (a0.size:Int) true _ A3.1).mono ?_);rintro e w' ⟨rfl,⟨nd,rfl⟩⟩;refine ⟨_,rfl,?_⟩))
  go_loopg [7,8,9] k (fun kq v7 v8 v9 w'=>∃(x0:Int) (x1:Int) (x2:Int),v7= .int .i64 x0∧v8= .int .i64 x1∧v9= .int .i64 x2∧Z0 (spec_ReadVar.l0 kq a0 a1 x0 x1 x2=some (r1,r2,r3))∧Z0 (kq≤k)∧Z0 (Below w.heap.size w w'))
  case atStart=>exact ⟨(0),(1),(a1),zq10,zq10,zq10,H',⟨z2a _⟩,⟨zq0⟩⟩
  case round=>
   clear H'
   try clear c4
   obtain ⟨x0,x1,x2,rfl,rfl,rfl,HA,HK1,HB⟩:=hrel
   cases gk with
   |zero=>exact absurd HA.1 (by simp [spec_ReadVar.l0])
   |succ k1=>
    have H:=HA.1
    clear HA
    simp only [spec_ReadVar.l0] at H
    have HC5:=zz H
    clear H
    go_upto_region 6 with (fail)
    go_cut [25] (fun v0 wc=>∃(kq:Nat) (x3:Bool),v0= .bool x3∧Z0 (spec_ReadVar.j1 kq a0 a1 x0 x1 x2 x3=some (r1,r2,r3))∧Z0 (kq≤k1)∧Z0 (Below w.heap.size w wc))
    case first=>
     have H:=HC5.1
     clear HC5
     by_cases c6:x2<(a0.size:Int)
     ·rw [if_pos c6] at H
      have c6b0:=z6 c6
      clear c6
      (first|rw [c6b0]|(simp only [zxa,i32_w];rw [c6b0])|skip)
      have H':=zz H
      clear H
      go_wp2
      go_meet
      case rel=>exact ⟨_,(decide (x2<(wrap64 (a1+5)))),zq10,H',⟨by have:=HK1.1;first|omega|exact z2a _⟩,⟨zq0⟩⟩
     ·rw [if_neg c6] at H
      have c6b0:=z7 c6
      clear c6
      (first|rw [c6b0]|(simp only [zxa,i32_w];rw [c6b0])|skip)
      have H':=zz H
      clear H
      go_wp2
      go_meet
      case rel=>exact ⟨_,(false),zq10,H',⟨by have:=HK1.1;first|omega|exact z2a _⟩,⟨zq0⟩⟩
    case rest=>
     clear HC5
     try clear c4
     try clear c6
     try clear c6b0
     obtain ⟨kq,x3,rfl,HA,HJ4,HB⟩:=hcut
     cases kq with
     |zero=>exact absurd HA.1 (by simp [spec_ReadVar.j1])
     |succ kj4=>
      have H:=HA.1
      clear HA
      simp only [spec_ReadVar.j1] at H
      by_cases c7:x3=true
      ·subst c7
       rw [if_pos rfl] at H
       by_cases c8:0≤x2
       ·rw [if_pos c8] at H
        have c8b0:=z6 c8
        clear c8
        by_cases c9:x2<(a0.size:Int)
        ·rw [if_pos c9] at H
         have c9b0:=z6 c9
         clear c9
         by_cases c0:(bt a0 x2)<128
         ·rw [if_pos c0] at H
          have c1:=z6 c0
          clear c0
          by_cases c11:(wrap64 (x0+(wrap64 ((Int.tmod (wrap64 (bt a0 x2)) 128)*x1))))>1000000000
          ·rw [if_pos c11] at H
           have c14:decide (1000000000<(wrap64 (x0+(wrap64 ((Int.tmod (wrap64 (bt a0 x2)) 128)*x1)))))=true:=z6 c11
           clear c11
           simp only [Option.some.injEq,Prod.mk.injEq] at H
           obtain ⟨rfl,rfl,rfl⟩:=H
           have p0:0≤(x2:Int):=z8 zq11
           have q0:x2<(a0.size:Int):=z8 zq11
           have k0:=bt_at a0 x2
           replace p0:=eq_true p0
           replace q0:=eq_true q0
           have p1:0≤(x2:Int):=z8 zq11
           have q1:x2<(a0.size:Int):=z8 zq11
           have k2:=bt_at a0 x2
           replace p1:=eq_true p1
           replace q1:=eq_true q1
           try go_wp2
           have n0:=zz (zx HB.1)
           clear HB
           have HB:=n0
           clear n0
           refine zGa (n:=12) (S:=fun w'=>True) (ds:=[]) #[false,false,false,false,false,false,false,false,false,false,false,false] zq8 rfl rfl trivial (fun hHeld=> ?_);refine zW spec_ReadVar.tab11 spec_ReadVar.bits11 (fun HT_ HW_=> ?_)
           generalize wc.drew=w14 at HB hHeld ⊢
           refine zr (i:=0) (N:=some 43) (v:= ?_) (a':= ?_) #[true,false,false,false,false,false,false,false,false,false,false,false] rfl rfl (zk HT_.1 zq8) (fun _ _ _ h=>h) (Or.inl ⟨zq19,zq5⟩) zq1 ?_
           refine zr (i:=1) (N:=some 44) (v:= ?_) (a':= ?_) #[true,true,false,false,false,false,false,false,false,false,false,false] rfl rfl (zk HT_.1 zq8) (fun _ _ _ h=>h) (Or.inl ⟨zq19,zq5⟩) zq1 ?_
           refine zr (i:=2) (N:=some 45) (v:= ?_) (a':= ?_) #[true,true,true,false,false,false,false,false,false,false,false,false] rfl rfl (zk HT_.1 zq8) (fun _ _ _ h=>h) (Or.inl ⟨zq19,zq5⟩) zq1 ?_
           refine zr (i:=3) (N:=some 46) (v:=undef) (a':= ?_) #[true,true,true,true,false,false,false,false,false,false,false,false] rfl rfl (zk HT_.1 zq8) (fun _ _ _ h=>h) (Or.inr ⟨zq19,rfl⟩) ?_ ?_
           rotate_left
           ·exact zq86
           refine zr (i:=4) (N:=some 47) (v:=undef) (a':= ?_) #[true,true,true,true,true,false,false,false,false,false,false,false] rfl rfl (zk HT_.1 zq8) (fun _ _ _ h=>h) (Or.inr ⟨zq19,rfl⟩) ?_ ?_
           rotate_left
           ·exact zq86
           refine zr (i:=5) (N:=some 48) (v:=undef) (a':= ?_) #[true,true,true,true,true,true,false,false,false,false,false,false] rfl rfl (zk HT_.1 zq8) (fun _ _ _ h=>h) (Or.inr ⟨zq19,rfl⟩) ?_ ?_
           rotate_left
           ·exact zq86
           refine zr (i:=6) (N:=some 49) (v:=undef) (a':= ?_) #[true,true,true,true,true,true,true,false,false,false,false,false] rfl rfl (zk HT_.1 zq8) (fun _ _ _ h=>h) (Or.inr ⟨zq19,rfl⟩) ?_ ?_
           rotate_left
           ·exact zq86
           refine zr (i:=7) (N:=some 50) (v:=undef) (a':= ?_) #[true,true,true,true,true,true,true,true,false,false,false,false] rfl rfl (zk HT_.1 zq8) (fun _ _ _ h=>h) (Or.inr ⟨zq19,rfl⟩) ?_ ?_
           rotate_left
           ·exact zq86
           refine zr (i:=8) (N:=some 51) (v:=undef) (a':= ?_) #[true,true,true,true,true,true,true,true,true,false,false,false] rfl rfl (zk HT_.1 zq8) (fun _ _ _ h=>h) (Or.inr ⟨zq19,rfl⟩) ?_ ?_
           rotate_left
           ·exact zq86
           refine zr (i:=9) (N:=some 52) (v:=undef) (a':= ?_) #[true,true,true,true,true,true,true,true,true,true,false,false] rfl rfl (zk HT_.1 zq8) (fun _ _ _ h=>h) (Or.inr ⟨zq19,rfl⟩) ?_ ?_
           rotate_left
           ·exact zq86
           refine zr (i:=10) (N:=some 53) (v:=undef) (a':= ?_) #[true,true,true,true,true,true,true,true,true,true,true,false] rfl rfl (zk HT_.1 zq8) (fun _ _ _ h=>h) (Or.inr ⟨zq19,rfl⟩) ?_ ?_
           rotate_left
           ·exact zq86
           exact zq102
          ·rw [if_neg c11] at H
           have c14:decide (1000000000<(wrap64 (x0+(wrap64 ((Int.tmod (wrap64 (bt a0 x2)) 128)*x1)))))=false:=z7 c11
           clear c11
           replace H:=z1a H
           obtain ⟨t1,A1,H⟩:=H
           replace H:(if 0≤a1 then (if a1≤(wrap64 (x2+1)) then (if (wrap64 (x2+1))≤(a0.size:Int) then (if t1.toList=(a0.extract (a1:Int).toNat ((wrap64 (x2+1)):Int).toNat).toList then (some (wrap64 (x0+(wrap64 ((Int.tmod (wrap64 (bt a0 x2)) 128)*x1))),wrap64 (x2+1),true)) else (some (0,0,false))) else (none)) else (none)) else (none))=some (r1,r2,r3):=H
           have A2:=zz A1
           clear A1
           by_cases c15:0≤a1
           ·rw [if_pos c15] at H
            have c16b0:=eq_true c15
            have c16b1:=z6 c15
            clear c15
            by_cases c20:a1≤(wrap64 (x2+1))
            ·rw [if_pos c20] at H
             have c17b0:=eq_true c20
             have c17b1:=z6 c20
             by_cases c21:(wrap64 (x2+1))≤(a0.size:Int)
             ·rw [if_pos c21] at H
              have c18b0:=eq_true c21
              have c18b1:=z6 c21
              by_cases c22:t1.toList=(a0.extract (a1:Int).toNat ((wrap64 (x2+1)):Int).toNat).toList
              ·rw [if_pos c22] at H
               have c23:(t1.toList==(a0.extract (a1:Int).toNat ((wrap64 (x2+1)):Int).toNat).toList)=true:=beq_iff_eq.mpr c22
               have c24:(t1.toList !=(a0.extract (a1:Int).toNat ((wrap64 (x2+1)):Int).toNat).toList)=false:=bne_eq_false_iff_eq.mpr c22
               clear c22
               simp only [Option.some.injEq,Prod.mk.injEq] at H
               obtain ⟨rfl,rfl,rfl⟩:=H
               have p0:0≤(x2:Int):=z8 zq11
               have q0:x2<(a0.size:Int):=z8 zq11
               have k0:=bt_at a0 x2
               replace p0:=eq_true p0
               replace q0:=eq_true q0
               have p1:0≤(x2:Int):=z8 zq11
               have q1:x2<(a0.size:Int):=z8 zq11
               have k2:=bt_at a0 x2
               replace p1:=eq_true p1
               replace q1:=eq_true q1
               try go_wp2
               have n0:=zz (zx HB.1)
               clear HB
               have HB:=n0
               clear n0
               refine zGa (n:=12) (S:=fun w'=>True) (ds:=[]) #[false,false,false,false,false,false,false,false,false,false,false,false] zq8 rfl rfl trivial (fun hHeld=> ?_);refine zW spec_ReadVar.tab11 spec_ReadVar.bits11 (fun HT_ HW_=> ?_)
               generalize wc.drew=w20 at HB hHeld ⊢
               refine zr (i:=0) (N:=some 43) (v:= ?_) (a':= ?_) #[true,false,false,false,false,false,false,false,false,false,false,false] rfl rfl (zk HT_.1 zq8) (fun _ _ _ h=>h) (Or.inl ⟨zq19,zq5⟩) zq1 ?_
               refine zr (i:=1) (N:=some 44) (v:= ?_) (a':= ?_) #[true,true,false,false,false,false,false,false,false,false,false,false] rfl rfl (zk HT_.1 zq8) (fun _ _ _ h=>h) (Or.inl ⟨zq19,zq5⟩) zq1 ?_
               refine zr (i:=2) (N:=some 45) (v:= ?_) (a':= ?_) #[true,true,true,false,false,false,false,false,false,false,false,false] rfl rfl (zk HT_.1 zq8) (fun _ _ _ h=>h) (Or.inl ⟨zq19,zq5⟩) zq1 ?_
               refine zr (i:=3) (N:=some 46) (v:= ?_) (a':= ?_) #[true,true,true,true,false,false,false,false,false,false,false,false] rfl rfl (zk HT_.1 zq8) (fun _ _ _ h=>h) (Or.inl ⟨zq19,zq5⟩) zq1 ?_
               refine zr (i:=5) (N:=some 48) (v:= ?_) (a':= ?_) #[true,true,true,true,false,true,false,false,false,false,false,false] rfl rfl (zk HT_.1 zq8) (fun _ _ _ h=>h) (Or.inl ⟨zq19,zq5⟩) zq1 ?_
               refine zr (i:=6) (N:=some 49) (v:= ?_) (a':= ?_) #[true,true,true,true,false,true,true,false,false,false,false,false] rfl rfl (zk HT_.1 zq8) (fun _ _ _ h=>h) (Or.inl ⟨zq19,zq5⟩) zq1 ?_
               refine zr (i:=7) (N:=some 50) (v:= ?_) (a':= ?_) #[true,true,true,true,false,true,true,true,false,false,false,false] rfl rfl (zk HT_.1 zq8) (fun _ _ _ h=>h) (Or.inl ⟨zq19,zq5⟩) zq1 ?_
               refine zr (i:=8) (N:=some 51) (v:= ?_) (a':= ?_) #[true,true,true,true,false,true,true,true,true,false,false,false] rfl rfl (zk HT_.1 zq8) (fun _ _ _ h=>h) (Or.inl ⟨zq19,zq5⟩) zq1 ?_
               refine zr (i:=9) (N:=some 52) (v:= ?_) (a':= ?_) #[true,true,true,true,false,true,true,true,true,true,false,false] rfl rfl (zk HT_.1 zq8) (fun _ _ _ h=>h) (Or.inl ⟨zq19,zq5⟩) zq1 ?_
               refine one_ (i:=4) (N:=some 47) #[true,true,true,true,true,true,true,true,true,true,false,false] rfl rfl (zpa HT_.1 zq8) zq32 (fun K hK=> ?_)
               refine zjb Try.func139 zq8 rfl #[.int .i64 (wrap64 (x0+(wrap64 ((Int.tmod (wrap64 (bt a0 x2)) 128)*x1))))] zq19 rfl rfl zq6 ?_
               with_reducible refine (spec_l01Var.calls kj4 (wrap64 (x0+(wrap64 ((Int.tmod (wrap64 (bt a0 x2)) 128)*x1)))) t1 _ A2.1).mono ?_
               rintro e w21 ⟨rfl,hb⟩
               exact zq127
              ·rw [if_neg c22] at H
               have c23:(t1.toList==(a0.extract (a1:Int).toNat ((wrap64 (x2+1)):Int).toNat).toList)=false:=beq_eq_false_iff_ne.mpr c22
               have c24:(t1.toList !=(a0.extract (a1:Int).toNat ((wrap64 (x2+1)):Int).toNat).toList)=true:=bne_iff_ne.mpr c22
               simp only [Option.some.injEq,Prod.mk.injEq] at H
               obtain ⟨rfl,rfl,rfl⟩:=H
               have p0:0≤(x2:Int):=z8 zq11
               have q0:x2<(a0.size:Int):=z8 zq11
               have k0:=bt_at a0 x2
               replace p0:=eq_true p0
               replace q0:=eq_true q0
               have p1:0≤(x2:Int):=z8 zq11
               have q1:x2<(a0.size:Int):=z8 zq11
               have k2:=bt_at a0 x2
               replace p1:=eq_true p1
               replace q1:=eq_true q1
               try go_wp2
               have n0:=zz (zx HB.1)
               clear HB
               have HB:=n0
               clear n0
               refine zGa (n:=12) (S:=fun w'=>True) (ds:=[]) #[false,false,false,false,false,false,false,false,false,false,false,false] zq8 rfl rfl trivial (fun hHeld=> ?_);refine zW spec_ReadVar.tab11 spec_ReadVar.bits11 (fun HT_ HW_=> ?_)
               generalize wc.drew=w22 at HB hHeld ⊢
               refine zr (i:=0) (N:=some 43) (v:= ?_) (a':= ?_) #[true,false,false,false,false,false,false,false,false,false,false,false] rfl rfl (zk HT_.1 zq8) (fun _ _ _ h=>h) (Or.inl ⟨zq19,zq5⟩) zq1 ?_
               refine zr (i:=1) (N:=some 44) (v:= ?_) (a':= ?_) #[true,true,false,false,false,false,false,false,false,false,false,false] rfl rfl (zk HT_.1 zq8) (fun _ _ _ h=>h) (Or.inl ⟨zq19,zq5⟩) zq1 ?_
               refine zr (i:=2) (N:=some 45) (v:= ?_) (a':= ?_) #[true,true,true,false,false,false,false,false,false,false,false,false] rfl rfl (zk HT_.1 zq8) (fun _ _ _ h=>h) (Or.inl ⟨zq19,zq5⟩) zq1 ?_
               refine zr (i:=3) (N:=some 46) (v:= ?_) (a':= ?_) #[true,true,true,true,false,false,false,false,false,false,false,false] rfl rfl (zk HT_.1 zq8) (fun _ _ _ h=>h) (Or.inl ⟨zq19,zq5⟩) zq1 ?_
               refine zr (i:=5) (N:=some 48) (v:= ?_) (a':= ?_) #[true,true,true,true,false,true,false,false,false,false,false,false] rfl rfl (zk HT_.1 zq8) (fun _ _ _ h=>h) (Or.inl ⟨zq19,zq5⟩) zq1 ?_
               refine zr (i:=6) (N:=some 49) (v:= ?_) (a':= ?_) #[true,true,true,true,false,true,true,false,false,false,false,false] rfl rfl (zk HT_.1 zq8) (fun _ _ _ h=>h) (Or.inl ⟨zq19,zq5⟩) zq1 ?_
               refine zr (i:=7) (N:=some 50) (v:= ?_) (a':= ?_) #[true,true,true,true,false,true,true,true,false,false,false,false] rfl rfl (zk HT_.1 zq8) (fun _ _ _ h=>h) (Or.inl ⟨zq19,zq5⟩) zq1 ?_
               refine zr (i:=8) (N:=some 51) (v:= ?_) (a':= ?_) #[true,true,true,true,false,true,true,true,true,false,false,false] rfl rfl (zk HT_.1 zq8) (fun _ _ _ h=>h) (Or.inl ⟨zq19,zq5⟩) zq1 ?_
               refine zr (i:=9) (N:=some 52) (v:= ?_) (a':= ?_) #[true,true,true,true,false,true,true,true,true,true,false,false] rfl rfl (zk HT_.1 zq8) (fun _ _ _ h=>h) (Or.inl ⟨zq19,zq5⟩) zq1 ?_
               refine one_ (i:=4) (N:=some 47) #[true,true,true,true,true,true,true,true,true,true,false,false] rfl rfl (zpa HT_.1 zq8) zq32 (fun K hK=> ?_)
               refine zjb Try.func139 zq8 rfl #[.int .i64 (wrap64 (x0+(wrap64 ((Int.tmod (wrap64 (bt a0 x2)) 128)*x1))))] zq19 rfl rfl zq6 ?_
               with_reducible refine (spec_l01Var.calls kj4 (wrap64 (x0+(wrap64 ((Int.tmod (wrap64 (bt a0 x2)) 128)*x1)))) t1 _ A2.1).mono ?_
               rintro e w23 ⟨rfl,hb⟩
               exact zq127
             ·rw [if_neg c21] at H
              exact absurd H zq29
            ·rw [if_neg c20] at H
             exact absurd H zq29
           ·rw [if_neg c15] at H
            exact absurd H zq29
         ·rw [if_neg c0] at H
          have c1:=z7 c0
          clear c0
          have H':=zz H
          clear H
          have p0:0≤(x2:Int):=z8 zq11
          have q0:x2<(a0.size:Int):=z8 zq11
          have k0:=bt_at a0 x2
          replace p0:=eq_true p0
          replace q0:=eq_true q0
          have p1:0≤(x2:Int):=z8 zq11
          have q1:x2<(a0.size:Int):=z8 zq11
          have k2:=bt_at a0 x2
          replace p1:=eq_true p1
          replace q1:=eq_true q1
          go_wp2
          go_roundg kj4
          case measure=>have:=HK1.1;have:=HJ4.1;omega
          case rel=>exact ⟨(wrap64 (x0+(wrap64 ((Int.tmod (wrap64 (bt a0 x2)) 128)*x1)))),(wrap64 (x1*128)),(wrap64 (x2+1)),zq10,zq10,zq10,H',⟨by have:=HK1.1;have:=HJ4.1;omega⟩,⟨zq0⟩⟩
        ·rw [if_neg c9] at H
         exact absurd H zq29
       ·exact zq158
      ·replace c7:=Bool.eq_false_iff.mpr c7
       subst c7
       rw [if_neg (show ¬(false=true) by decide)] at H
       simp only [Option.some.injEq,Prod.mk.injEq] at H
       obtain ⟨rfl,rfl,rfl⟩:=H
       go_wp2
       go_ret3
       exact ⟨zq9,zq0⟩
 ·replace c4:=Bool.eq_false_iff.mpr c4
  subst c4
  rw [if_neg (show ¬(false=true) by decide)] at H
  simp only [Option.some.injEq,Prod.mk.injEq] at H
  obtain ⟨rfl,rfl,rfl⟩:=H
  go_enter Try.func175,Try.ntmps175
  go_wp2_with (first|((with_reducible refine zn (f:=108) rfl ?_);refine zQ (some 13) rfl rfl Try.func108 zq8 rfl #[.int .i64 a1,.int .i64 0,.int .i64 (a0.size:Int)] rfl zq6 ?_;(with_reducible refine (spec_l01In.calls a1 0 (a0.size:Int) false _ A3.1).mono ?_);rintro e w' ⟨rfl,⟨nd,rfl⟩⟩;refine ⟨_,rfl,?_⟩))
  go_ret3
  exact ⟨zq9,zq0⟩
def spec_ReadPage.l0:Nat→Int→Int→List ByteArray→List (S135)→Option (ByteArray)
 |0,_,_,_,_=>none
 |k+1,x1,x5,x136000,x136001=>if x5≥0 then (if 0≤x5 then (if x5<(x136001.length:Int) then (if ((zm x136001 x5).f0)=x1 then (some ((zm x136001 x5).f1)) else (spec_ReadPage.l0 k x1 (wrap64 (x5-1)) x136000 x136001)) else (none)) else (none)) else (if 0≤x1 then (if x1<(x136000.length:Int) then (some (zkb ByteArray.empty x136000 x1)) else (none)) else (none))
def spec_ReadPage.f (k:Nat) (l0_0:List ByteArray) (l0_1:List (S135)) (a1:Int):Option (ByteArray):=(spec_l01In.f a1 0 (wrap64 ((l0_0.length:Int)-1))).bind fun t136=>(if t136=true then (spec_ReadPage.l0 k a1 (wrap64 ((l0_1.length:Int)-1)) l0_0 l0_1) else (some (⟨#[]⟩:ByteArray)))
theorem spec_ReadPage.mono_l:∀k,(∀y0 y1 y2 y3,LeO (spec_ReadPage.l0 k y0 y1 y2 y3) (spec_ReadPage.l0 (k+1) y0 y1 y2 y3))
 |0=>fun _ _ _ _ r h=>by simp [spec_ReadPage.l0] at h
 |k+1=>by
  have ih0:=spec_ReadPage.mono_l k
  ·intro y0 y1 y2 y3
   unfold spec_ReadPage.l0
   exact zq136
theorem spec_ReadPage.mono:∀a0 a1 a2 k,LeO (spec_ReadPage.f k a0 a1 a2) (spec_ReadPage.f (k+1) a0 a1 a2):=by
 intro a0 a1 a2 k
 have ih0:=spec_ReadPage.mono_l k
 unfold spec_ReadPage.f
 exact zq134
theorem spec_ReadPage.calls (k:Nat) (A0:Option Addr) (c0:Nat) (l2:List ByteArray) (A1:Option Addr) (c1:Nat) (l3:List (S135)) (a1:Int) (r:ByteArray) (w:World) (r0:Kd.C Kd.string w A0 l2.length l2) (h0:l2.length≤c0) (r1:Kd.C k135 w A1 l3.length l3) (h2:l3.length≤c1) (h:spec_ReadPage.f k l2 l3 a1=some r):
  Calls Try.prog 117 #[.agg #[.slice A0 l2.length c0,.slice A1 l3.length c1],.int .i64 a1] w fun e w'=>e= .returned (.string r)∧Below w.heap.size w w':=by
 have hu32:=Try.underlying32
 have R0:=zz r0
 clear r0 h0
 have R1:=zz r1
 clear r1 h2
 have HB:=zz (z0a w.heap.size w)
 have H:((spec_l01In.f a1 0 (wrap64 ((l2.length:Int)-1))).bind fun t0=>(if t0=true then (spec_ReadPage.l0 k a1 (wrap64 ((l3.length:Int)-1)) l2 l3) else (some (⟨#[]⟩:ByteArray))))=some r:=h
 clear h
 replace H:=z1a H
 obtain ⟨t0,A2,H⟩:=H
 replace H:(if t0=true then (spec_ReadPage.l0 k a1 (wrap64 ((l3.length:Int)-1)) l2 l3) else (some (⟨#[]⟩:ByteArray)))=some r:=H
 have A3:=zz A2
 clear A2
 by_cases c4:t0=true
 ·subst c4
  rw [if_pos rfl] at H
  have H':=zz H
  clear H
  go_enter Try.func117,Try.ntmps117
  go_wp2_with (first|((with_reducible refine zg (N:=2) rfl ?_);refine zA rfl (N:=2) rfl (cs:= #[.slice A0 l2.length c0,.slice A1 l3.length c1]) (t:=32) zq26 ?_;intro g0 hg w5 hbox hb;have B0:=zz hbox;have G0:=zz (zq12:w.heap.size≤g0);replace HB:=zz (zf zq0 hb);clear hb hbox hg;obtain ⟨_,_,_,_⟩:=zba B0.1)|((with_reducible refine zn (f:=108) rfl ?_);refine zQ (some 11) rfl rfl Try.func108 zq8 rfl #[.int .i64 a1,.int .i64 0,.int .i64 (wrap64 ((l2.length:Int)-1))] rfl zq6 ?_;(with_reducible refine (spec_l01In.calls a1 0 (wrap64 ((l2.length:Int)-1)) true _ A3.1).mono ?_);rintro e w' ⟨rfl,⟨nd,rfl⟩⟩;refine ⟨_,rfl,?_⟩))
  go_loopg [5] k (fun kq v5 w'=>∃(x0:Int),v5= .int .i64 x0∧Z0 (spec_ReadPage.l0 kq a1 x0 l2 l3=some r)∧Z0 (kq≤k)∧Z0 (w'.heap[g0]?=some (.cells #[(.slice A0 l2.length c0),(.slice A1 l3.length c1)] 32 (0,0)))∧Z0 (Below w.heap.size w w'))
  case atStart=>exact ⟨(wrap64 ((l3.length:Int)-1)),zq10,H',⟨z2a _⟩,⟨by (with_reducible repeat (first|refine zC ?_ _|refine zH ?_|refine zo ?_ _));exact B0.1⟩,⟨zq4 G0.1⟩⟩
  case round=>
   clear H'
   try clear c4
   try clear hcz6_0
   try clear hcz6_1
   try clear hfz6_0
   try clear hfz6_1
   obtain ⟨x0,rfl,HA,HK1,B0,HB⟩:=hrel
   cases gk with
   |zero=>exact absurd HA.1 (by simp [spec_ReadPage.l0])
   |succ k1=>
    have H:=HA.1
    clear HA
    simp only [spec_ReadPage.l0] at H
    by_cases c7:x0≥0
    ·rw [if_pos c7] at H
     have c7b0:decide (0≤x0)=true:=z6 c7
     clear c7
     by_cases c8:0≤x0
     ·rw [if_pos c8] at H
      have c8b0:=z6 c8
      clear c8
      by_cases c9:x0<(l3.length:Int)
      ·rw [if_pos c9] at H
       have c9b0:=z6 c9
       clear c9
       by_cases c10:((zm l3 x0).f0)=a1
       ·rw [if_pos c10] at H
        have c11:(((zm l3 x0).f0)==a1)=true:=beq_iff_eq.mpr c10
        have c12:(((zm l3 x0).f0) !=a1)=false:=bne_eq_false_iff_eq.mpr c10
        clear c10
        obtain rfl:=z5a H
        have hcz11_0:wr.cell? ⟨g0,0,none⟩=some (.slice A0 l2.length c0):=(zd B0.1 0).trans rfl
        have hcz11_1:wr.cell? ⟨g0,1,none⟩=some (.slice A1 l3.length c1):=(zd B0.1 1).trans rfl
        have hfz11_0:=zh B0.1 0
        have hfz11_1:=zh B0.1 1
        exact zq97
       ·rw [if_neg c10] at H
        have c11:(((zm l3 x0).f0)==a1)=false:=beq_eq_false_iff_ne.mpr c10
        have c12:(((zm l3 x0).f0) !=a1)=true:=bne_iff_ne.mpr c10
        have H':=zz H
        clear H
        have hcz12_0:wr.cell? ⟨g0,0,none⟩=some (.slice A0 l2.length c0):=(zd B0.1 0).trans rfl
        have hcz12_1:wr.cell? ⟨g0,1,none⟩=some (.slice A1 l3.length c1):=(zd B0.1 1).trans rfl
        have hfz12_0:=zh B0.1 0
        have hfz12_1:=zh B0.1 1
        exact zq101
      ·rw [if_neg c9] at H
       exact absurd H zq29
     ·exact zq158
    ·rw [if_neg c7] at H
     have c7b0:decide (0≤x0)=false:=z7 c7
     clear c7
     by_cases c15:0≤a1
     ·rw [if_pos c15] at H
      have c13b0:=z6 c15
      clear c15
      by_cases c16:a1<(l2.length:Int)
      ·rw [if_pos c16] at H
       have c14b0:=z6 c16
       clear c16
       obtain rfl:=z5a H
       have hcz15_0:wr.cell? ⟨g0,0,none⟩=some (.slice A0 l2.length c0):=(zd B0.1 0).trans rfl
       have hcz15_1:wr.cell? ⟨g0,1,none⟩=some (.slice A1 l3.length c1):=(zd B0.1 1).trans rfl
       have hfz15_0:=zh B0.1 0
       have hfz15_1:=zh B0.1 1
       have p2:0≤(a1:Int):=z8 zq11
       have q2:a1<(l2.length:Int):=z8 zq11
       obtain ⟨ad139,e2,k5⟩:=Kd.at_string R0.1 a1 p2 q2
       exact zq156
      ·rw [if_neg c16] at H
       exact absurd H zq29
     ·rw [if_neg c15] at H
      exact absurd H zq29
 ·replace c4:=Bool.eq_false_iff.mpr c4
  subst c4
  rw [if_neg (show ¬(false=true) by decide)] at H
  obtain rfl:=z5a H
  go_enter Try.func117,Try.ntmps117
  go_wp2_with (first|((with_reducible refine zg (N:=2) rfl ?_);refine zA rfl (N:=2) rfl (cs:= #[.slice A0 l2.length c0,.slice A1 l3.length c1]) (t:=32) zq26 ?_;intro g0 hg w16 hbox hb;have B0:=zz hbox;have G0:=zz (zq12:w.heap.size≤g0);replace HB:=zz (zf zq0 hb);clear hb hbox hg;obtain ⟨_,_,_,_⟩:=zba B0.1)|((with_reducible refine zn (f:=108) rfl ?_);refine zQ (some 11) rfl rfl Try.func108 zq8 rfl #[.int .i64 a1,.int .i64 0,.int .i64 (wrap64 ((l2.length:Int)-1))] rfl zq6 ?_;(with_reducible refine (spec_l01In.calls a1 0 (wrap64 ((l2.length:Int)-1)) false _ A3.1).mono ?_);rintro e w' ⟨rfl,⟨nd,rfl⟩⟩;refine ⟨_,rfl,?_⟩))
  exact zq115
def impl_Unsealed.f (k:Nat) (a0:ByteArray):Option (ByteArray×Bool):=(impl_in.f (wrap64 ((a0.size:Int)-4)) 0 20000).bind fun t185=>(if t185=true then (if 0≤(wrap64 ((a0.size:Int)-4)) then (if (wrap64 ((a0.size:Int)-4))≤(a0.size:Int) then ((impl_seal.f k (a0.extract 0 ((wrap64 ((a0.size:Int)-4)):Int).toNat)).bind fun t186=>(if (a0.extract ((wrap64 ((a0.size:Int)-4)):Int).toNat a0.size).toList=t186.toList then (some (a0.extract 0 ((wrap64 ((a0.size:Int)-4)):Int).toNat,true)) else (some ((⟨#[]⟩:ByteArray),false)))) else (none)) else (none)) else (some ((⟨#[]⟩:ByteArray),false)))
def impl_Unsealed.T2:Bool×List (List Nat×List Nat):=(true,[([],[]),([0],[0]),([1],[1]),([2,1],[2]),([3],[3]),([3],[3]),([4,5,3],[3,4,5]),([3],[3]),([3],[3]),([7,8,3],[3,7,8]),([9,3,3],[3,9]),([6,10,3],[3,6,10]),([3,11],[3,11])])
def impl_Unsealed.B2:List Nat:=[0,1,3,7,15,15,63,15,15,399,911,2047,4095]
theorem impl_Unsealed.tab2:rtab .any (zgb Try.f154 2)=impl_Unsealed.T2:=zq8
theorem impl_Unsealed.bits2:zqa impl_Unsealed.T2.2 impl_Unsealed.B2=true:=zq8
theorem impl_Unsealed.calls (k:Nat) (a0:ByteArray) (r1:ByteArray) (r2:Bool) (w:World) (h:impl_Unsealed.f k a0=some (r1,r2)):
  Calls Try.prog 154 #[.string a0] w fun e w'=>e= .returned (.tuple #[.string r1,.bool r2])∧Below w.heap.size w w':=by
 have HB:=zz (z0a w.heap.size w)
 have H:((impl_in.f (wrap64 ((a0.size:Int)-4)) 0 20000).bind fun t0=>(if t0=true then (if 0≤(wrap64 ((a0.size:Int)-4)) then (if (wrap64 ((a0.size:Int)-4))≤(a0.size:Int) then ((impl_seal.f k (a0.extract 0 ((wrap64 ((a0.size:Int)-4)):Int).toNat)).bind fun t1=>(if (a0.extract ((wrap64 ((a0.size:Int)-4)):Int).toNat a0.size).toList=t1.toList then (some (a0.extract 0 ((wrap64 ((a0.size:Int)-4)):Int).toNat,true)) else (some ((⟨#[]⟩:ByteArray),false)))) else (none)) else (none)) else (some ((⟨#[]⟩:ByteArray),false))))=some (r1,r2):=h
 clear h
 replace H:=z1a H
 obtain ⟨t0,A0,H⟩:=H
 replace H:(if t0=true then (if 0≤(wrap64 ((a0.size:Int)-4)) then (if (wrap64 ((a0.size:Int)-4))≤(a0.size:Int) then ((impl_seal.f k (a0.extract 0 ((wrap64 ((a0.size:Int)-4)):Int).toNat)).bind fun t1=>(if (a0.extract ((wrap64 ((a0.size:Int)-4)):Int).toNat a0.size).toList=t1.toList then (some (a0.extract 0 ((wrap64 ((a0.size:Int)-4)):Int).toNat,true)) else (some ((⟨#[]⟩:ByteArray),false)))) else (none)) else (none)) else (some ((⟨#[]⟩:ByteArray),false)))=some (r1,r2):=H
 have A2:=zz A0
 clear A0
 by_cases c3:t0=true
 ·subst c3
  rw [if_pos rfl] at H
  obtain ⟨ji4,hji4⟩:∃j_:Int,(wrap64 ((a0.size:Int)-4))=j_:=⟨_,rfl⟩
  replace H:(if 0≤(ji4) then (if (ji4)≤(a0.size:Int) then ((impl_seal.f k (a0.extract 0 ((ji4):Int).toNat)).bind fun t1=>(if (a0.extract ((ji4):Int).toNat a0.size).toList=t1.toList then (some (a0.extract 0 ((ji4):Int).toNat,true)) else (some ((⟨#[]⟩:ByteArray),false)))) else (none)) else (none))=some (r1,r2):=by first|(rw [hji4] at H;exact H)|(simp only [hji4] at H ⊢;exact H)
  (try rw [hji4] at A2)
  have hji4w:(IntKind.i64.wrap ((a0.size:Int)-4))=ji4:=(zxa _).trans hji4
  by_cases c5:0≤(ji4)
  ·rw [if_pos c5] at H
   have c5b0:=eq_true c5
   have c5b1:=z6 c5
   clear c5
   by_cases c6:(ji4)≤(a0.size:Int)
   ·rw [if_pos c6] at H
    have c6b0:=eq_true c6
    have c6b1:=z6 c6
    clear c6
    have c7b0:=eq_true (z8 zq11:0≤(ji4))
    have c8b0:=eq_true (z8 zq11:(ji4)≤(a0.size:Int))
    replace H:=z1a H
    obtain ⟨t1,A1,H⟩:=H
    replace H:(if (a0.extract ((ji4):Int).toNat a0.size).toList=t1.toList then (some (a0.extract 0 ((ji4):Int).toNat,true)) else (some ((⟨#[]⟩:ByteArray),false)))=some (r1,r2):=H
    have A9:=zz A1
    clear A1
    by_cases c10:(a0.extract ((ji4):Int).toNat a0.size).toList=t1.toList
    ·rw [if_pos c10] at H
     have c0:((a0.extract ((ji4):Int).toNat a0.size).toList==t1.toList)=true:=beq_iff_eq.mpr c10
     have c1:((a0.extract ((ji4):Int).toNat a0.size).toList !=t1.toList)=false:=bne_eq_false_iff_eq.mpr c10
     clear c10
     have c11b0:=eq_true (z8 zq11:0≤(ji4))
     have c12b0:=eq_true (z8 zq11:(ji4)≤(a0.size:Int))
     simp only [Option.some.injEq,Prod.mk.injEq] at H
     obtain ⟨rfl,rfl⟩:=H
     go_enter Try.func154,Try.ntmps154
     try go_wp2
     have n0:=zz (zx HB.1)
     clear HB
     have HB:=n0
     clear n0
     refine zGa (n:=13) (S:=fun w'=>True) (ds:=[]) #[false,false,false,false,false,false,false,false,false,false,false,false,false] zq8 rfl rfl trivial (fun hHeld=> ?_);refine zW impl_Unsealed.tab2 impl_Unsealed.bits2 (fun HT_ HW_=> ?_)
     generalize w.drew=w13 at HB hHeld ⊢
     refine zr (i:=0) (N:=some 8) (v:= ?_) (a':= ?_) #[true,false,false,false,false,false,false,false,false,false,false,false,false] rfl rfl (zk HT_.1 zq8) (fun _ _ _ h=>h) (Or.inl ⟨zq19,zq5⟩) zq1 ?_
     refine one_ (i:=1) (N:=some 9) #[true,true,false,false,false,false,false,false,false,false,false,false,false] rfl rfl (zpa HT_.1 zq8) zq32 (fun K hK=> ?_)
     refine zjb Try.func121 zq8 rfl #[.int .i64 ji4,.int .i64 0,.int .i64 20000] zq19 rfl rfl zq40 ?_
     with_reducible refine (impl_in.calls ji4 0 20000 true _ A2.1).mono ?_
     rintro e w' ⟨rfl,⟨nd,rfl⟩⟩
     refine ⟨_,rfl,?_⟩
     refine hK.out _ _ trivial (fun hHeld=> ?_)
     clear hK K
     refine norm_ (a':= ?_) ?_ ?_
     rotate_left
     ·show Act.put _ (some 9) _=_
      exact zq86
     refine zr (i:=2) (N:=some 10) (v:= ?_) (a':= ?_) #[true,true,true,false,false,false,false,false,false,false,false,false,false] rfl rfl (zk HT_.1 zq8) (fun _ _ _ h=>h) (Or.inl ⟨zq19,zq5⟩) zq1 ?_
     refine zr (i:=3) (N:=some 11) (v:= ?_) (a':= ?_) #[true,true,true,true,false,false,false,false,false,false,false,false,false] rfl rfl (zk HT_.1 zq8) (fun _ _ _ h=>h) (Or.inl ⟨zq19,zq5⟩) zq1 ?_
     refine zr (i:=4) (N:=some 12) (v:= ?_) (a':= ?_) #[true,true,true,true,true,false,false,false,false,false,false,false,false] rfl rfl (zk HT_.1 zq8) (fun _ _ _ h=>h) (Or.inl ⟨zq19,zq5⟩) zq1 ?_
     refine zr (i:=5) (N:=some 13) (v:= ?_) (a':= ?_) #[true,true,true,true,true,true,false,false,false,false,false,false,false] rfl rfl (zk HT_.1 zq8) (fun _ _ _ h=>h) (Or.inl ⟨zq19,zq5⟩) zq1 ?_
     refine zr (i:=6) (N:=some 14) (v:= ?_) (a':= ?_) #[true,true,true,true,true,true,true,false,false,false,false,false,false] rfl rfl (zk HT_.1 zq8) (fun _ _ _ h=>h) (Or.inl ⟨zq19,zq5⟩) zq1 ?_
     refine zr (i:=7) (N:=some 15) (v:= ?_) (a':= ?_) #[true,true,true,true,true,true,true,true,false,false,false,false,false] rfl rfl (zk HT_.1 zq8) (fun _ _ _ h=>h) (Or.inl ⟨zq19,zq5⟩) zq1 ?_
     refine zr (i:=8) (N:=some 16) (v:= ?_) (a':= ?_) #[true,true,true,true,true,true,true,true,true,false,false,false,false] rfl rfl (zk HT_.1 zq8) (fun _ _ _ h=>h) (Or.inl ⟨zq19,zq5⟩) zq1 ?_
     refine zr (i:=9) (N:=some 17) (v:= ?_) (a':= ?_) #[true,true,true,true,true,true,true,true,true,true,false,false,false] rfl rfl (zk HT_.1 zq8) (fun _ _ _ h=>h) (Or.inl ⟨zq19,zq5⟩) zq1 ?_
     refine one_ (i:=10) (N:=some 18) #[true,true,true,true,true,true,true,true,true,true,true,false,false] rfl rfl (zpa HT_.1 zq8) zq32 (fun K hK=> ?_)
     refine zjb Try.func145 zq8 rfl #[.string (a0.extract 0 ((ji4):Int).toNat)] zq19 rfl rfl zq40 ?_
     with_reducible refine (impl_seal.calls k (a0.extract 0 ((ji4):Int).toNat) t1 _ A9.1).mono ?_
     rintro e w14 ⟨rfl,hb⟩
     exact zq130
    ·rw [if_neg c10] at H
     have c0:((a0.extract ((ji4):Int).toNat a0.size).toList==t1.toList)=false:=beq_eq_false_iff_ne.mpr c10
     have c1:((a0.extract ((ji4):Int).toNat a0.size).toList !=t1.toList)=true:=bne_iff_ne.mpr c10
     simp only [Option.some.injEq,Prod.mk.injEq] at H
     obtain ⟨rfl,rfl⟩:=H
     go_enter Try.func154,Try.ntmps154
     try go_wp2
     have n0:=zz (zx HB.1)
     clear HB
     have HB:=n0
     clear n0
     refine zGa (n:=13) (S:=fun w'=>True) (ds:=[]) #[false,false,false,false,false,false,false,false,false,false,false,false,false] zq8 rfl rfl trivial (fun hHeld=> ?_);refine zW impl_Unsealed.tab2 impl_Unsealed.bits2 (fun HT_ HW_=> ?_)
     generalize w.drew=w15 at HB hHeld ⊢
     refine zr (i:=0) (N:=some 8) (v:= ?_) (a':= ?_) #[true,false,false,false,false,false,false,false,false,false,false,false,false] rfl rfl (zk HT_.1 zq8) (fun _ _ _ h=>h) (Or.inl ⟨zq19,zq5⟩) zq1 ?_
     refine one_ (i:=1) (N:=some 9) #[true,true,false,false,false,false,false,false,false,false,false,false,false] rfl rfl (zpa HT_.1 zq8) zq32 (fun K hK=> ?_)
     refine zjb Try.func121 zq8 rfl #[.int .i64 ji4,.int .i64 0,.int .i64 20000] zq19 rfl rfl zq40 ?_
     with_reducible refine (impl_in.calls ji4 0 20000 true _ A2.1).mono ?_
     rintro e w' ⟨rfl,⟨nd,rfl⟩⟩
     refine ⟨_,rfl,?_⟩
     refine hK.out _ _ trivial (fun hHeld=> ?_)
     clear hK K
     refine norm_ (a':= ?_) ?_ ?_
     rotate_left
     ·show Act.put _ (some 9) _=_
      exact zq86
     refine zr (i:=2) (N:=some 10) (v:= ?_) (a':= ?_) #[true,true,true,false,false,false,false,false,false,false,false,false,false] rfl rfl (zk HT_.1 zq8) (fun _ _ _ h=>h) (Or.inl ⟨zq19,zq5⟩) zq1 ?_
     refine zr (i:=3) (N:=some 11) (v:= ?_) (a':= ?_) #[true,true,true,true,false,false,false,false,false,false,false,false,false] rfl rfl (zk HT_.1 zq8) (fun _ _ _ h=>h) (Or.inl ⟨zq19,zq5⟩) zq1 ?_
     refine zr (i:=4) (N:=some 12) (v:= ?_) (a':= ?_) #[true,true,true,true,true,false,false,false,false,false,false,false,false] rfl rfl (zk HT_.1 zq8) (fun _ _ _ h=>h) (Or.inl ⟨zq19,zq5⟩) zq1 ?_
     refine zr (i:=5) (N:=some 13) (v:= ?_) (a':= ?_) #[true,true,true,true,true,true,false,false,false,false,false,false,false] rfl rfl (zk HT_.1 zq8) (fun _ _ _ h=>h) (Or.inl ⟨zq19,zq5⟩) zq1 ?_
     refine zr (i:=6) (N:=some 14) (v:= ?_) (a':= ?_) #[true,true,true,true,true,true,true,false,false,false,false,false,false] rfl rfl (zk HT_.1 zq8) (fun _ _ _ h=>h) (Or.inl ⟨zq19,zq5⟩) zq1 ?_
     refine zr (i:=7) (N:=some 15) (v:= ?_) (a':= ?_) #[true,true,true,true,true,true,true,true,false,false,false,false,false] rfl rfl (zk HT_.1 zq8) (fun _ _ _ h=>h) (Or.inl ⟨zq19,zq5⟩) zq1 ?_
     refine zr (i:=8) (N:=some 16) (v:= ?_) (a':= ?_) #[true,true,true,true,true,true,true,true,true,false,false,false,false] rfl rfl (zk HT_.1 zq8) (fun _ _ _ h=>h) (Or.inl ⟨zq19,zq5⟩) zq1 ?_
     refine zr (i:=9) (N:=some 17) (v:= ?_) (a':= ?_) #[true,true,true,true,true,true,true,true,true,true,false,false,false] rfl rfl (zk HT_.1 zq8) (fun _ _ _ h=>h) (Or.inl ⟨zq19,zq5⟩) zq1 ?_
     refine one_ (i:=10) (N:=some 18) #[true,true,true,true,true,true,true,true,true,true,true,false,false] rfl rfl (zpa HT_.1 zq8) zq32 (fun K hK=> ?_)
     refine zjb Try.func145 zq8 rfl #[.string (a0.extract 0 ((ji4):Int).toNat)] zq19 rfl rfl zq40 ?_
     with_reducible refine (impl_seal.calls k (a0.extract 0 ((ji4):Int).toNat) t1 _ A9.1).mono ?_
     rintro e w16 ⟨rfl,hb⟩
     exact zq130
   ·exact zq145
  ·exact zq105
 ·replace c3:=Bool.eq_false_iff.mpr c3
  subst c3
  rw [if_neg (show ¬(false=true) by decide)] at H
  simp only [Option.some.injEq,Prod.mk.injEq] at H
  obtain ⟨rfl,rfl⟩:=H
  go_enter Try.func154,Try.ntmps154
  try go_wp2
  have n0:=zz (zx HB.1)
  clear HB
  have HB:=n0
  clear n0
  refine zGa (n:=13) (S:=fun w'=>True) (ds:=[]) #[false,false,false,false,false,false,false,false,false,false,false,false,false] zq8 rfl rfl trivial (fun hHeld=> ?_);refine zW impl_Unsealed.tab2 impl_Unsealed.bits2 (fun HT_ HW_=> ?_)
  generalize w.drew=w17 at HB hHeld ⊢
  refine zr (i:=0) (N:=some 8) (v:= ?_) (a':= ?_) #[true,false,false,false,false,false,false,false,false,false,false,false,false] rfl rfl (zk HT_.1 zq8) (fun _ _ _ h=>h) (Or.inl ⟨zq19,zq5⟩) zq1 ?_
  refine one_ (i:=1) (N:=some 9) #[true,true,false,false,false,false,false,false,false,false,false,false,false] rfl rfl (zpa HT_.1 zq8) zq32 (fun K hK=> ?_)
  refine zjb Try.func121 zq8 rfl #[.int .i64 (wrap64 ((a0.size:Int)-4)),.int .i64 0,.int .i64 20000] zq19 rfl rfl zq6 ?_
  with_reducible refine (impl_in.calls (wrap64 ((a0.size:Int)-4)) 0 20000 false _ A2.1).mono ?_
  rintro e w' ⟨rfl,⟨nd,rfl⟩⟩
  refine ⟨_,rfl,?_⟩
  refine hK.out _ _ trivial (fun hHeld=> ?_)
  clear hK K
  refine norm_ (a':= ?_) ?_ ?_
  rotate_left
  ·show Act.put _ (some 9) _=_
   exact zq86
  refine zr (i:=2) (N:=some 10) (v:= ?_) (a':= ?_) #[true,true,true,false,false,false,false,false,false,false,false,false,false] rfl rfl (zk HT_.1 zq8) (fun _ _ _ h=>h) (Or.inl ⟨zq19,zq5⟩) zq1 ?_
  refine zr (i:=3) (N:=some 11) (v:= ?_) (a':= ?_) #[true,true,true,true,false,false,false,false,false,false,false,false,false] rfl rfl (zk HT_.1 zq8) (fun _ _ _ h=>h) (Or.inl ⟨zq19,zq5⟩) zq1 ?_
  refine zr (i:=4) (N:=some 12) (v:=undef) (a':= ?_) #[true,true,true,true,true,false,false,false,false,false,false,false,false] rfl rfl (zk HT_.1 zq8) (fun _ _ _ h=>h) (Or.inr ⟨zq19,rfl⟩) ?_ ?_
  rotate_left
  ·exact zq86
  refine zr (i:=5) (N:=some 13) (v:=undef) (a':= ?_) #[true,true,true,true,true,true,false,false,false,false,false,false,false] rfl rfl (zk HT_.1 zq8) (fun _ _ _ h=>h) (Or.inr ⟨zq19,rfl⟩) ?_ ?_
  rotate_left
  ·exact zq86
  refine zr (i:=6) (N:=some 14) (v:=undef) (a':= ?_) #[true,true,true,true,true,true,true,false,false,false,false,false,false] rfl rfl (zk HT_.1 zq8) (fun _ _ _ h=>h) (Or.inr ⟨zq19,rfl⟩) ?_ ?_
  rotate_left
  ·exact zq86
  refine zr (i:=7) (N:=some 15) (v:=undef) (a':= ?_) #[true,true,true,true,true,true,true,true,false,false,false,false,false] rfl rfl (zk HT_.1 zq8) (fun _ _ _ h=>h) (Or.inr ⟨zq19,rfl⟩) ?_ ?_
  rotate_left
  ·exact zq86
  refine zr (i:=8) (N:=some 16) (v:=undef) (a':= ?_) #[true,true,true,true,true,true,true,true,true,false,false,false,false] rfl rfl (zk HT_.1 zq8) (fun _ _ _ h=>h) (Or.inr ⟨zq19,rfl⟩) ?_ ?_
  rotate_left
  ·exact zq86
  refine zr (i:=9) (N:=some 17) (v:=undef) (a':= ?_) #[true,true,true,true,true,true,true,true,true,true,false,false,false] rfl rfl (zk HT_.1 zq8) (fun _ _ _ h=>h) (Or.inr ⟨zq19,rfl⟩) ?_ ?_
  rotate_left
  ·exact zq86
  refine zr (i:=10) (N:=some 18) (v:=undef) (a':= ?_) #[true,true,true,true,true,true,true,true,true,true,true,false,false] rfl rfl (zk HT_.1 zq8) (fun _ _ _ h=>h) (Or.inr ⟨zq19,rfl⟩) ?_ ?_
  rotate_left
  ·exact zq86
  refine zr (i:=11) (N:=some 19) (v:=undef) (a':= ?_) #[true,true,true,true,true,true,true,true,true,true,true,true,false] rfl rfl (zk HT_.1 zq8) (fun _ _ _ h=>h) (Or.inr ⟨zq19,rfl⟩) ?_ ?_
  rotate_left
  ·exact zq86
  refine zr (i:=12) (N:=some 20) (v:= ?_) (a':= ?_) #[true,true,true,true,true,true,true,true,true,true,true,true,true] rfl rfl (zk HT_.1 zq8) (fun _ _ _ h=>h) (Or.inl ⟨zq19,zq5⟩) zq1 ?_
  refine done_ (done_of HT_.1 zq8) ?_
  try go_wp2
  go_ret2
  exact ⟨zq9,zq0⟩
mutual
def impl_ReadVar.l0:Nat→ByteArray→Int→Int→Int→Option (Int×Int×Bool)
 |0,_,_,_,_=>none
 |k+1,x0,x1,x7,x8=>if x8<5 then (impl_ReadVar.j1 k x0 x1 x7 x8 (decide ((wrap64 (x1+x8))<(x0.size:Int)))) else (impl_ReadVar.j1 k x0 x1 x7 x8 false)
def impl_ReadVar.j1:Nat→ByteArray→Int→Int→Int→Bool→Option (Int×Int×Bool)
 |0,_,_,_,_,_=>none
 |k+1,x0,x1,x7,x8,x24=>if x24=true then (if 0≤(wrap64 (x1+x8)) then (if (wrap64 (x1+x8))<(x0.size:Int) then (if 0≤(wrap64 (7*x8)) then (if (wrap64 (bt x0 (wrap64 (x1+x8))))>127 then (impl_ReadVar.l0 k x0 x1 (Go.bits .or .i64 x7 (shl .i64 (Go.bits .and .i64 (wrap64 (bt x0 (wrap64 (x1+x8)))) 127) (wrap64 (7*x8)))) (wrap64 (x8+1))) else (if (wrap64 (bt x0 (wrap64 (x1+x8))))=0 then (if x8>0 then (some (0,0,false)) else (if (Go.bits .or .i64 x7 (shl .i64 (Go.bits .and .i64 (wrap64 (bt x0 (wrap64 (x1+x8)))) 127) (wrap64 (7*x8))))>1000000000 then (some (0,0,false)) else (some (Go.bits .or .i64 x7 (shl .i64 (Go.bits .and .i64 (wrap64 (bt x0 (wrap64 (x1+x8)))) 127) (wrap64 (7*x8))),wrap64 ((wrap64 (x1+x8))+1),true)))) else (if (Go.bits .or .i64 x7 (shl .i64 (Go.bits .and .i64 (wrap64 (bt x0 (wrap64 (x1+x8)))) 127) (wrap64 (7*x8))))>1000000000 then (some (0,0,false)) else (some (Go.bits .or .i64 x7 (shl .i64 (Go.bits .and .i64 (wrap64 (bt x0 (wrap64 (x1+x8)))) 127) (wrap64 (7*x8))),wrap64 ((wrap64 (x1+x8))+1),true))))) else (none)) else (none)) else (none)) else (some (0,0,false))
end
def impl_ReadVar.f (k:Nat) (a0:ByteArray) (a1:Int):Option (Int×Int×Bool):=(impl_in.f a1 0 (a0.size:Int)).bind fun t187=>(if t187=true then (impl_ReadVar.l0 k a0 a1 0 0) else (some (0,0,false)))
theorem impl_ReadVar.mono_l:∀k,(∀y0 y1 y2 y3,LeO (impl_ReadVar.l0 k y0 y1 y2 y3) (impl_ReadVar.l0 (k+1) y0 y1 y2 y3))∧(∀y0 y1 y2 y3 y4,LeO (impl_ReadVar.j1 k y0 y1 y2 y3 y4) (impl_ReadVar.j1 (k+1) y0 y1 y2 y3 y4))
 |0=>⟨fun _ _ _ _ r h=>by simp [impl_ReadVar.l0] at h,fun _ _ _ _ _ r h=>by simp [impl_ReadVar.j1] at h⟩
 |k+1=>by
  obtain ⟨ih0,ih1⟩:=impl_ReadVar.mono_l k
  refine ⟨?_,?_⟩
  ·intro y0 y1 y2 y3
   unfold impl_ReadVar.l0
   exact zq95
  ·intro y0 y1 y2 y3 y4
   unfold impl_ReadVar.j1
   exact zq95
theorem impl_ReadVar.mono:∀a0 a1 k,LeO (impl_ReadVar.f k a0 a1) (impl_ReadVar.f (k+1) a0 a1):=by
 intro a0 a1 k
 obtain ⟨ih0,ih1⟩:=impl_ReadVar.mono_l k
 unfold impl_ReadVar.f
 exact zq117
theorem impl_ReadVar.calls (k:Nat) (a0:ByteArray) (a1:Int) (r1:Int) (r2:Int) (r3:Bool) (w:World) (h:impl_ReadVar.f k a0 a1=some (r1,r2,r3)):
  Calls Try.prog 176 #[.string a0,.int .i64 a1] w fun e w'=>e= .returned (.tuple #[.int .i64 r1,.int .i64 r2,.bool r3])∧Drawn0 w w':=by
 have H:((impl_in.f a1 0 (a0.size:Int)).bind fun t0=>(if t0=true then (impl_ReadVar.l0 k a0 a1 0 0) else (some (0,0,false))))=some (r1,r2,r3):=h
 clear h
 replace H:=z1a H
 obtain ⟨t0,A0,H⟩:=H
 replace H:(if t0=true then (impl_ReadVar.l0 k a0 a1 0 0) else (some (0,0,false)))=some (r1,r2,r3):=H
 have A3:=zz A0
 clear A0
 by_cases c4:t0=true
 ·subst c4
  rw [if_pos rfl] at H
  have H':=zz H
  clear H
  go_enter Try.func176,Try.ntmps176
  go_wp2_with (first|((with_reducible refine zn (f:=121) rfl ?_);refine zQ (some 13) rfl rfl Try.func121 zq8 rfl #[.int .i64 a1,.int .i64 0,.int .i64 (a0.size:Int)] rfl zq6 ?_;(with_reducible refine (impl_in.calls a1 0 (a0.size:Int) true _ A3.1).mono ?_);rintro e w' ⟨rfl,⟨nd,rfl⟩⟩;refine ⟨_,rfl,?_⟩))
  go_loopg [7,8] k (fun kq v7 v8 w'=>∃(x0:Int) (x1:Int),v7= .int .i64 x0∧v8= .int .i64 x1∧Z0 (impl_ReadVar.l0 kq a0 a1 x0 x1=some (r1,r2,r3))∧Z0 (kq≤k)∧Drawn0 w w')
  case atStart=>exact ⟨(0),(0),zq10,zq10,H',⟨z2a _⟩,zq15⟩
  case round=>
   clear H'
   try clear c4
   obtain ⟨x0,x1,rfl,rfl,HA,HK1,⟨m1,rfl⟩⟩:=hrel
   cases gk with
   |zero=>exact absurd HA.1 (by simp [impl_ReadVar.l0])
   |succ k1=>
    have H:=HA.1
    clear HA
    simp only [impl_ReadVar.l0] at H
    have HC5:=zz H
    clear H
    go_upto_region 5 with (fail)
    go_cut [24] (fun v0 wc=>∃(kq:Nat) (x2:Bool),v0= .bool x2∧Z0 (impl_ReadVar.j1 kq a0 a1 x0 x1 x2=some (r1,r2,r3))∧Z0 (kq≤k1)∧Drawn0 w wc)
    case first=>
     have H:=HC5.1
     clear HC5
     by_cases c6:x1<5
     ·rw [if_pos c6] at H
      have c6b0:=z6 c6
      clear c6
      (first|rw [c6b0]|(simp only [zxa,i32_w];rw [c6b0])|skip)
      have H':=zz H
      clear H
      go_wp2
      go_meet
      case rel=>exact ⟨_,(decide ((wrap64 (a1+x1))<(a0.size:Int))),zq10,H',⟨by have:=HK1.1;first|omega|exact z2a _⟩,zq15⟩
     ·rw [if_neg c6] at H
      have c6b0:=z7 c6
      clear c6
      (first|rw [c6b0]|(simp only [zxa,i32_w];rw [c6b0])|skip)
      have H':=zz H
      clear H
      go_wp2
      go_meet
      case rel=>exact ⟨_,(false),zq10,H',⟨by have:=HK1.1;first|omega|exact z2a _⟩,zq15⟩
    case rest=>
     clear HC5
     try clear c4
     try clear c6
     try clear c6b0
     obtain ⟨kq,x2,rfl,HA,HJ4,⟨mc4,rfl⟩⟩:=hcut
     cases kq with
     |zero=>exact absurd HA.1 (by simp [impl_ReadVar.j1])
     |succ kj4=>
      have H:=HA.1
      clear HA
      simp only [impl_ReadVar.j1] at H
      by_cases c7:x2=true
      ·subst c7
       rw [if_pos rfl] at H
       obtain ⟨ji8,hji8⟩:∃j_:Int,(wrap64 (a1+x1))=j_:=⟨_,rfl⟩
       replace H:(if 0≤(ji8) then (if (ji8)<(a0.size:Int) then (if 0≤(wrap64 (7*x1)) then (if (wrap64 (bt a0 (ji8)))>127 then (impl_ReadVar.l0 kj4 a0 a1 (Go.bits .or .i64 x0 (shl .i64 (Go.bits .and .i64 (wrap64 (bt a0 (ji8))) 127) (wrap64 (7*x1)))) (wrap64 (x1+1))) else (if (wrap64 (bt a0 (ji8)))=0 then (if x1>0 then (some (0,0,false)) else (if (Go.bits .or .i64 x0 (shl .i64 (Go.bits .and .i64 (wrap64 (bt a0 (ji8))) 127) (wrap64 (7*x1))))>1000000000 then (some (0,0,false)) else (some (Go.bits .or .i64 x0 (shl .i64 (Go.bits .and .i64 (wrap64 (bt a0 (ji8))) 127) (wrap64 (7*x1))),wrap64 ((ji8)+1),true)))) else (if (Go.bits .or .i64 x0 (shl .i64 (Go.bits .and .i64 (wrap64 (bt a0 (ji8))) 127) (wrap64 (7*x1))))>1000000000 then (some (0,0,false)) else (some (Go.bits .or .i64 x0 (shl .i64 (Go.bits .and .i64 (wrap64 (bt a0 (ji8))) 127) (wrap64 (7*x1))),wrap64 ((ji8)+1),true))))) else (none)) else (none)) else (none))=some (r1,r2,r3):=by first|(rw [hji8] at H;exact H)|(simp only [hji8] at H ⊢;exact H)
       have hji8w:(IntKind.i64.wrap (a1+x1))=ji8:=(zxa _).trans hji8
       by_cases c9:0≤(ji8)
       ·rw [if_pos c9] at H
        have c9b0:=z6 c9
        clear c9
        by_cases c10:(ji8)<(a0.size:Int)
        ·rw [if_pos c10] at H
         have c10b0:=z6 c10
         clear c10
         obtain ⟨ji12,hji12⟩:∃j_:Int,(wrap64 (7*x1))=j_:=⟨_,rfl⟩
         replace H:(if 0≤(ji12) then (if (wrap64 (bt a0 (ji8)))>127 then (impl_ReadVar.l0 kj4 a0 a1 (Go.bits .or .i64 x0 (shl .i64 (Go.bits .and .i64 (wrap64 (bt a0 (ji8))) 127) (ji12))) (wrap64 (x1+1))) else (if (wrap64 (bt a0 (ji8)))=0 then (if x1>0 then (some (0,0,false)) else (if (Go.bits .or .i64 x0 (shl .i64 (Go.bits .and .i64 (wrap64 (bt a0 (ji8))) 127) (ji12)))>1000000000 then (some (0,0,false)) else (some (Go.bits .or .i64 x0 (shl .i64 (Go.bits .and .i64 (wrap64 (bt a0 (ji8))) 127) (ji12)),wrap64 ((ji8)+1),true)))) else (if (Go.bits .or .i64 x0 (shl .i64 (Go.bits .and .i64 (wrap64 (bt a0 (ji8))) 127) (ji12)))>1000000000 then (some (0,0,false)) else (some (Go.bits .or .i64 x0 (shl .i64 (Go.bits .and .i64 (wrap64 (bt a0 (ji8))) 127) (ji12)),wrap64 ((ji8)+1),true))))) else (none))=some (r1,r2,r3):=by first|(rw [hji12] at H;exact H)|(simp only [hji12] at H ⊢;exact H)
         have hji12w:(IntKind.i64.wrap (7*x1))=ji12:=(zxa _).trans hji12
         by_cases c0:0≤(ji12)
         ·rw [if_pos c0] at H
          have c13b0:=eq_true c0
          have c13b1:=z6 c0
          clear c0
          obtain ⟨ji14,hji14⟩:∃j_:Int,(shl .i64 (Go.bits .and .i64 (wrap64 (bt a0 (ji8))) 127) (ji12))=j_:=⟨_,rfl⟩
          replace H:(if (wrap64 (bt a0 (ji8)))>127 then (impl_ReadVar.l0 kj4 a0 a1 (Go.bits .or .i64 x0 (ji14)) (wrap64 (x1+1))) else (if (wrap64 (bt a0 (ji8)))=0 then (if x1>0 then (some (0,0,false)) else (if (Go.bits .or .i64 x0 (ji14))>1000000000 then (some (0,0,false)) else (some (Go.bits .or .i64 x0 (ji14),wrap64 ((ji8)+1),true)))) else (if (Go.bits .or .i64 x0 (ji14))>1000000000 then (some (0,0,false)) else (some (Go.bits .or .i64 x0 (ji14),wrap64 ((ji8)+1),true)))))=some (r1,r2,r3):=by first|(rw [hji14] at H;exact H)|(simp only [hji14] at H ⊢;exact H)
          have hji14_:(IntKind.i64.wrap ((Go.bits .and .i64 (wrap64 (bt a0 (ji8))) 127)*2^min (ji12).toNat 64))=ji14:=hji14
          have hji14z:(ji12)≤64→(IntKind.i64.wrap ((Go.bits .and .i64 (wrap64 (bt a0 (ji8))) 127)*2^(ji12).toNat))=ji14:=shl_small hji14
          have hji14y:(wrap64 ((Go.bits .and .i64 (wrap64 (bt a0 (ji8))) 127)*2^min (ji12).toNat 64))=ji14:=(zxa _).symm.trans hji14_
          have hji14x:(ji12)≤64→(wrap64 ((Go.bits .and .i64 (wrap64 (bt a0 (ji8))) 127)*2^(ji12).toNat))=ji14:=fun h_=>(zxa _).symm.trans (hji14z h_)
          by_cases c1:(wrap64 (bt a0 (ji8)))>127
          ·rw [if_pos c1] at H
           have c11:decide (127<(wrap64 (bt a0 (ji8))))=true:=z6 c1
           clear c1
           have H':=zz H
           clear H
           have p0:0≤((ji8):Int):=z8 zq11
           have q0:(ji8)<(a0.size:Int):=z8 zq11
           have k0:=bt_at a0 (ji8)
           replace p0:=eq_true p0
           replace q0:=eq_true q0
           go_wp2
           go_roundg kj4
           case measure=>have:=HK1.1;have:=HJ4.1;omega
           case rel=>exact ⟨(Go.bits .or .i64 x0 (ji14)),(wrap64 (x1+1)),(by first|rfl|(simp;done)|(simp only [←hji14]<;>(first|rfl|simp))|(simp [*];done)),zq10,H',⟨by have:=HK1.1;have:=HJ4.1;omega⟩,zq15⟩
          ·rw [if_neg c1] at H
           have c11:decide (127<(wrap64 (bt a0 (ji8))))=false:=z7 c1
           clear c1
           by_cases c12:(wrap64 (bt a0 (ji8)))=0
           ·rw [if_pos c12] at H
            have c14:((wrap64 (bt a0 (ji8)))==0)=true:=beq_iff_eq.mpr c12
            have c20:((wrap64 (bt a0 (ji8))) !=0)=false:=bne_eq_false_iff_eq.mpr c12
            clear c12
            by_cases c21:x1>0
            ·rw [if_pos c21] at H
             have c22:decide (0<x1)=true:=z6 c21
             clear c21
             exact zq93
            ·rw [if_neg c21] at H
             have c22:decide (0<x1)=false:=z7 c21
             clear c21
             by_cases c23:(Go.bits .or .i64 x0 (ji14))>1000000000
             ·rw [if_pos c23] at H
              have c24:decide (1000000000<(Go.bits .or .i64 x0 (ji14)))=true:=z6 c23
              clear c23
              exact zq93
             ·rw [if_neg c23] at H
              have c24:decide (1000000000<(Go.bits .or .i64 x0 (ji14)))=false:=z7 c23
              clear c23
              exact zq93
           ·rw [if_neg c12] at H
            have c14:((wrap64 (bt a0 (ji8)))==0)=false:=beq_eq_false_iff_ne.mpr c12
            have c20:((wrap64 (bt a0 (ji8))) !=0)=true:=bne_iff_ne.mpr c12
            by_cases c25:(Go.bits .or .i64 x0 (ji14))>1000000000
            ·rw [if_pos c25] at H
             have c26:decide (1000000000<(Go.bits .or .i64 x0 (ji14)))=true:=z6 c25
             clear c25
             exact zq93
            ·rw [if_neg c25] at H
             have c26:decide (1000000000<(Go.bits .or .i64 x0 (ji14)))=false:=z7 c25
             clear c25
             exact zq93
         ·rw [if_neg c0] at H
          exact absurd H zq29
        ·rw [if_neg c10] at H
         exact absurd H zq29
       ·rw [if_neg c9] at H
        exact absurd H zq29
      ·replace c7:=Bool.eq_false_iff.mpr c7
       subst c7
       rw [if_neg (show ¬(false=true) by decide)] at H
       simp only [Option.some.injEq,Prod.mk.injEq] at H
       obtain ⟨rfl,rfl,rfl⟩:=H
       go_wp2
       go_ret3
       exact ⟨zq10,zq15⟩
 ·replace c4:=Bool.eq_false_iff.mpr c4
  subst c4
  rw [if_neg (show ¬(false=true) by decide)] at H
  simp only [Option.some.injEq,Prod.mk.injEq] at H
  obtain ⟨rfl,rfl,rfl⟩:=H
  go_enter Try.func176,Try.ntmps176
  go_wp2_with (first|((with_reducible refine zn (f:=121) rfl ?_);refine zQ (some 13) rfl rfl Try.func121 zq8 rfl #[.int .i64 a1,.int .i64 0,.int .i64 (a0.size:Int)] rfl zq6 ?_;(with_reducible refine (impl_in.calls a1 0 (a0.size:Int) false _ A3.1).mono ?_);rintro e w' ⟨rfl,⟨nd,rfl⟩⟩;refine ⟨_,rfl,?_⟩))
  go_ret3
  exact ⟨zq10,zq15⟩
def IsS178 (w0 W:World) (g:Nat) (f0:ByteArray) (f1:Int) (f2:Bool):Prop:=W.heap[g]?=some (.cells #[.string f0,.int .i64 f1,.bool f2] 178 (0,0))∧w0.heap.size≤g
theorem IsS178.grown {w0 W:World} {g:Nat} {f0:ByteArray} {f1:Int} {f2:Bool} {W1:World} {row:Option Nat} (h:IsS178 w0 W g f0 f1 f2) (hw:W.grownBy W1 row) (hne:some g≠row):IsS178 w0 W1 g f0 f1 f2:=by
 obtain ⟨hb,hg⟩:=h
 exact ⟨zaa hb hw hne,hg⟩
theorem IsS178.fresh {w0 W:World} {g:Nat} {f0:ByteArray} {f1:Int} {f2:Bool} (h:IsS178 w0 W g f0 f1 f2):∀k,W.heap.size≤k→k≠g:=by
 obtain ⟨hb,hg⟩:=h
 exact Kd.freshB hb
theorem IsS178.kept {w0 W:World} {g:Nat} {f0:ByteArray} {f1:Int} {f2:Bool} {W1:World} {S:Nat→Prop} (h:IsS178 w0 W g f0 f1 f2) (hk:Kept W W1 S) (hne:¬S g):IsS178 w0 W1 g f0 f1 f2:=by
 obtain ⟨hb,hg⟩:=h
 exact ⟨zua hb hk hne,hg⟩
theorem IsS178.below {w0 W:World} {g:Nat} {f0:ByteArray} {f1:Int} {f2:Bool} {W1:World} (h:IsS178 w0 W g f0 f1 f2) (hw:Below W.heap.size W W1):IsS178 w0 W1 g f0 f1 f2:=h.grown (zeb hw none) zq29
theorem IsS178.alloc {w0 W:World} {g:Nat} {f0:ByteArray} {f1:Int} {f2:Bool} (h:IsS178 w0 W g f0 f1 f2) (o:Obj):IsS178 w0 (W.alloc o) g f0 f1 f2:=h.below (zi (z0a _ _) o)
theorem IsS178.drewN {w0 W:World} {g:Nat} {f0:ByteArray} {f1:Int} {f2:Bool} (h:IsS178 w0 W g f0 f1 f2) (m:Nat):IsS178 w0 (W.drewN m) g f0 f1 f2:=h
theorem IsS178.drew {w0 W:World} {g:Nat} {f0:ByteArray} {f1:Int} {f2:Bool} (h:IsS178 w0 W g f0 f1 f2):IsS178 w0 W.drew g f0 f1 f2:=h
theorem IsS178.at_ {w0 W:World} {g:Nat} {f0:ByteArray} {f1:Int} {f2:Bool} {w':World} {m:Nat} (hq:W.drewN m=w') (h:IsS178 w0 W g f0 f1 f2):IsS178 w0 w' g f0 f1 f2:=by subst hq;exact IsS178.drewN h m
theorem IsS178.own_ne {w0 W:World} {g:Nat} {f0:ByteArray} {f1:Int} {f2:Bool} {α:Type} {d:Kd α} {e:Nat} {base:Nat} {ok:Nat→Prop} {v:Value} {xs:List α} (h:IsS178 w0 W g f0 f1 f2) (ho:d.R e W base ok v xs) (ht:e≠178):some g≠v.ownBlock:=by
 obtain ⟨hb,hg⟩:=h
 exact Kd.R_ne ho hb ht
theorem IsS178.ge {w0 W:World} {g:Nat} {f0:ByteArray} {f1:Int} {f2:Bool} (h:IsS178 w0 W g f0 f1 f2):w0.heap.size≤g:=by
 obtain ⟨hb,hg⟩:=h
 exact hg
theorem cellS178_0 {W:World} {g:Nat} {f0:ByteArray} {f1:Int} {f2:Bool} (h:W.heap[g]?=some (.cells #[.string f0,.int .i64 f1,.bool f2] 178 (0,0))):W.cell? ⟨g,0,none⟩=some (.string f0):=(zd h 0).trans rfl
theorem IsS178.set_0 {w0 W:World} {g:Nat} {f0:ByteArray} {f1:Int} {f2:Bool} (h:IsS178 w0 W g f0 f1 f2) (x:ByteArray):IsS178 w0 (W.setCell ⟨g,0,none⟩ (.string x)) g x f1 f2:=by
 obtain ⟨hb,hg⟩:=h
 exact ⟨by simpa using blk_set hb 0 (.string x),hg⟩
theorem cellS178_1 {W:World} {g:Nat} {f0:ByteArray} {f1:Int} {f2:Bool} (h:W.heap[g]?=some (.cells #[.string f0,.int .i64 f1,.bool f2] 178 (0,0))):W.cell? ⟨g,1,none⟩=some (.int .i64 f1):=(zd h 1).trans rfl
theorem IsS178.set_1 {w0 W:World} {g:Nat} {f0:ByteArray} {f1:Int} {f2:Bool} (h:IsS178 w0 W g f0 f1 f2) (x:Int):IsS178 w0 (W.setCell ⟨g,1,none⟩ (.int .i64 x)) g f0 x f2:=by
 obtain ⟨hb,hg⟩:=h
 exact ⟨by simpa using blk_set hb 1 (.int .i64 x),hg⟩
theorem cellS178_2 {W:World} {g:Nat} {f0:ByteArray} {f1:Int} {f2:Bool} (h:W.heap[g]?=some (.cells #[.string f0,.int .i64 f1,.bool f2] 178 (0,0))):W.cell? ⟨g,2,none⟩=some (.bool f2):=(zd h 2).trans rfl
theorem IsS178.set_2 {w0 W:World} {g:Nat} {f0:ByteArray} {f1:Int} {f2:Bool} (h:IsS178 w0 W g f0 f1 f2) (x:Bool):IsS178 w0 (W.setCell ⟨g,2,none⟩ (.bool x)) g f0 f1 x:=by
 obtain ⟨hb,hg⟩:=h
 exact ⟨by simpa using blk_set hb 2 (.bool x),hg⟩
theorem IsS178.new (w0 W:World) (f0:ByteArray) (f1:Int) (f2:Bool) (hB:Below w0.heap.size w0 W):IsS178 w0 (W.alloc (.cells #[.string f0,.int .i64 f1,.bool f2] 178)) W.heap.size f0 f1 f2:=⟨by simpa using heap_alloc_new W _,hB.size⟩
def impl_reader_num.f (k:Nat) (s0_0:ByteArray) (s0_1:Int) (s0_2:Bool) (a1:Int):Option (Int×ByteArray×Int×Bool):=(impl_ReadVar.f k s0_0 s0_1).bind fun bt188=>(if s0_2=true then (some (0,s0_0,s0_1,true)) else (if bt188.2.2=true then (if bt188.1>a1 then (some (0,s0_0,s0_1,true)) else (some (bt188.1,s0_0,bt188.2.1,s0_2))) else (some (0,s0_0,s0_1,true))))
theorem impl_reader_num.calls (k:Nat) (g:Nat) (s0_0:ByteArray) (s0_1:Int) (s0_2:Bool) (a1:Int) (r1:Int) (r2:ByteArray) (r3:Int) (r4:Bool) (w0 w:World) (hI:IsS178 w0 w g s0_0 s0_1 s0_2) (hB:Below w0.heap.size w0 w) (h:impl_reader_num.f k s0_0 s0_1 s0_2 a1=some (r1,r2,r3,r4)):
  Calls Try.prog 155 #[.pointer (some ⟨g,0,none⟩),.int .i64 a1] w fun e w'=>e= .returned (.int .i64 r1)∧IsS178 w0 w' g r2 r3 r4∧Below w0.heap.size w0 w'∧KeepBut w w' g none:=by
 have HI0:=zz hI
 have HK:=zz (KeepBut.refl w g none)
 clear hI
 have HB:=zz hB
 clear hB
 have H:((impl_ReadVar.f k s0_0 s0_1).bind fun b0=>(if s0_2=true then (some (0,s0_0,s0_1,true)) else (if b0.2.2=true then (if b0.1>a1 then (some (0,s0_0,s0_1,true)) else (some (b0.1,s0_0,b0.2.1,s0_2))) else (some (0,s0_0,s0_1,true)))))=some (r1,r2,r3,r4):=h
 clear h
 replace H:=z1a H
 obtain ⟨⟨t0,t1,t2⟩,A0,H⟩:=H
 replace H:(if s0_2=true then (some (0,s0_0,s0_1,true)) else (if t2=true then (if t0>a1 then (some (0,s0_0,s0_1,true)) else (some (t0,s0_0,t1,s0_2))) else (some (0,s0_0,s0_1,true))))=some (r1,r2,r3,r4):=H
 have A3:=zz A0
 clear A0
 by_cases c4:s0_2=true
 ·subst c4
  rw [if_pos rfl] at H
  simp only [Option.some.injEq,Prod.mk.injEq] at H
  obtain ⟨rfl,rfl,rfl,rfl⟩:=H
  obtain ⟨HGz5,hgz5⟩:=HI0.1
  have hcz5_0:=cellS178_0 HGz5
  have hcz5_1:=cellS178_1 HGz5
  have hcz5_2:=cellS178_2 HGz5
  have hfz5_0:=zh HGz5 0
  have hfz5_1:=zh HGz5 1
  have hfz5_2:=zh HGz5 2
  clear HGz5 hgz5
  go_enter Try.func155,Try.ntmps155
  go_wp2_with (first|(go_at_call 176;(with_reducible refine (impl_ReadVar.calls k s0_0 s0_1 t0 t1 t2 _ A3.1).mono ?_);rintro e w' ⟨rfl,⟨nd,rfl⟩⟩;(try first|exact ⟨rfl,_,World.drewN_drewN _ _ _⟩|exact ⟨rfl,_,Eq.trans (World.drewN_drewN _ _ _) (congrArg (World.drewN _) (Nat.add_assoc _ _ _))⟩)))
  repeat (go_quiet (first|(go_at_call 176;(with_reducible refine (impl_ReadVar.calls k s0_0 s0_1 t0 t1 t2 _ A3.1).mono ?_);rintro e w' ⟨rfl,⟨nd,rfl⟩⟩;(try first|exact ⟨rfl,_,World.drewN_drewN _ _ _⟩|exact ⟨rfl,_,Eq.trans (World.drewN_drewN _ _ _) (congrArg (World.drewN _) (Nat.add_assoc _ _ _))⟩)));try go_wp2_with (first|(go_at_call 176;(with_reducible refine (impl_ReadVar.calls k s0_0 s0_1 t0 t1 t2 _ A3.1).mono ?_);rintro e w' ⟨rfl,⟨nd,rfl⟩⟩;(try first|exact ⟨rfl,_,World.drewN_drewN _ _ _⟩|exact ⟨rfl,_,Eq.trans (World.drewN_drewN _ _ _) (congrArg (World.drewN _) (Nat.add_assoc _ _ _))⟩))))
  go_ret
  exact ⟨zq9,zq36 HI0.1,zq38 HI0.1,zq43⟩
 ·replace c4:=Bool.eq_false_iff.mpr c4
  subst c4
  rw [if_neg (show ¬(false=true) by decide)] at H
  by_cases c6:t2=true
  ·subst c6
   rw [if_pos rfl] at H
   by_cases c7:t0>a1
   ·rw [if_pos c7] at H
    have c7b0:decide (a1<t0)=true:=z6 c7
    clear c7
    simp only [Option.some.injEq,Prod.mk.injEq] at H
    obtain ⟨rfl,rfl,rfl,rfl⟩:=H
    obtain ⟨HGz8,hgz8⟩:=HI0.1
    have hcz8_0:=cellS178_0 HGz8
    have hcz8_1:=cellS178_1 HGz8
    have hcz8_2:=cellS178_2 HGz8
    have hfz8_0:=zh HGz8 0
    have hfz8_1:=zh HGz8 1
    have hfz8_2:=zh HGz8 2
    clear HGz8 hgz8
    exact zq94
   ·rw [if_neg c7] at H
    have c7b0:decide (a1<t0)=false:=z7 c7
    clear c7
    simp only [Option.some.injEq,Prod.mk.injEq] at H
    obtain ⟨rfl,rfl,rfl,rfl⟩:=H
    obtain ⟨HGz9,hgz9⟩:=HI0.1
    have hcz9_0:=cellS178_0 HGz9
    have hcz9_1:=cellS178_1 HGz9
    have hcz9_2:=cellS178_2 HGz9
    have hfz9_0:=zh HGz9 0
    have hfz9_1:=zh HGz9 1
    have hfz9_2:=zh HGz9 2
    clear HGz9 hgz9
    exact zq94
  ·replace c6:=Bool.eq_false_iff.mpr c6
   subst c6
   rw [if_neg (show ¬(false=true) by decide)] at H
   simp only [Option.some.injEq,Prod.mk.injEq] at H
   obtain ⟨rfl,rfl,rfl,rfl⟩:=H
   obtain ⟨HGz10,hgz10⟩:=HI0.1
   have hcz10_0:=cellS178_0 HGz10
   have hcz10_1:=cellS178_1 HGz10
   have hcz10_2:=cellS178_2 HGz10
   have hfz10_0:=zh HGz10 0
   have hfz10_1:=zh HGz10 1
   have hfz10_2:=zh HGz10 2
   clear HGz10 hgz10
   go_enter Try.func155,Try.ntmps155
   go_wp2_with (first|(go_at_call 176;(with_reducible refine (impl_ReadVar.calls k s0_0 s0_1 t0 t1 false _ A3.1).mono ?_);rintro e w' ⟨rfl,⟨nd,rfl⟩⟩;(try first|exact ⟨rfl,_,World.drewN_drewN _ _ _⟩|exact ⟨rfl,_,Eq.trans (World.drewN_drewN _ _ _) (congrArg (World.drewN _) (Nat.add_assoc _ _ _))⟩)))
   repeat (go_quiet (first|(go_at_call 176;(with_reducible refine (impl_ReadVar.calls k s0_0 s0_1 t0 t1 false _ A3.1).mono ?_);rintro e w' ⟨rfl,⟨nd,rfl⟩⟩;(try first|exact ⟨rfl,_,World.drewN_drewN _ _ _⟩|exact ⟨rfl,_,Eq.trans (World.drewN_drewN _ _ _) (congrArg (World.drewN _) (Nat.add_assoc _ _ _))⟩)));try go_wp2_with (first|(go_at_call 176;(with_reducible refine (impl_ReadVar.calls k s0_0 s0_1 t0 t1 false _ A3.1).mono ?_);rintro e w' ⟨rfl,⟨nd,rfl⟩⟩;(try first|exact ⟨rfl,_,World.drewN_drewN _ _ _⟩|exact ⟨rfl,_,Eq.trans (World.drewN_drewN _ _ _) (congrArg (World.drewN _) (Nat.add_assoc _ _ _))⟩))))
   go_ret
   exact ⟨zq9,zq36 HI0.1,zq38 HI0.1,zq43⟩
def impl_ReadPage.l0:Nat→Int→Int→List ByteArray→List (S135)→Option (ByteArray)
 |0,_,_,_,_=>none
 |k+1,x1,x5,x236000,x236001=>if x5≥0 then (if 0≤x5 then (if x5<(x236001.length:Int) then (if ((zm x236001 x5).f0)=x1 then (some ((zm x236001 x5).f1)) else (impl_ReadPage.l0 k x1 (wrap64 (x5-1)) x236000 x236001)) else (none)) else (none)) else (if 0≤x1 then (if x1<(x236000.length:Int) then (some (zkb ByteArray.empty x236000 x1)) else (none)) else (none))
def impl_ReadPage.f (k:Nat) (l0_0:List ByteArray) (l0_1:List (S135)) (a1:Int):Option (ByteArray):=(impl_isPage.f l0_0 l0_1 a1).bind fun t236=>(if t236=true then (impl_ReadPage.l0 k a1 (wrap64 ((l0_1.length:Int)-1)) l0_0 l0_1) else (some (⟨#[]⟩:ByteArray)))
theorem impl_ReadPage.mono_l:∀k,(∀y0 y1 y2 y3,LeO (impl_ReadPage.l0 k y0 y1 y2 y3) (impl_ReadPage.l0 (k+1) y0 y1 y2 y3))
 |0=>fun _ _ _ _ r h=>by simp [impl_ReadPage.l0] at h
 |k+1=>by
  have ih0:=impl_ReadPage.mono_l k
  ·intro y0 y1 y2 y3
   unfold impl_ReadPage.l0
   exact zq136
theorem impl_ReadPage.mono:∀a0 a1 a2 k,LeO (impl_ReadPage.f k a0 a1 a2) (impl_ReadPage.f (k+1) a0 a1 a2):=by
 intro a0 a1 a2 k
 have ih0:=impl_ReadPage.mono_l k
 unfold impl_ReadPage.f
 exact zq134
theorem impl_ReadPage.calls (k:Nat) (A0:Option Addr) (c0:Nat) (l2:List ByteArray) (A1:Option Addr) (c1:Nat) (l3:List (S135)) (a1:Int) (r:ByteArray) (w:World) (r0:Kd.C Kd.string w A0 l2.length l2) (h0:l2.length≤c0) (r1:Kd.C k135 w A1 l3.length l3) (h2:l3.length≤c1) (h:impl_ReadPage.f k l2 l3 a1=some r):
  Calls Try.prog 120 #[.agg #[.slice A0 l2.length c0,.slice A1 l3.length c1],.int .i64 a1] w fun e w'=>e= .returned (.string r)∧Below w.heap.size w w':=by
 have hu32:=Try.underlying32
 have R0:=zz r0
 have C0:=zz h0
 clear r0 h0
 have R1:=zz r1
 have C1:=zz h2
 clear r1 h2
 have HB:=zz (z0a w.heap.size w)
 have H:((impl_isPage.f l2 l3 a1).bind fun t0=>(if t0=true then (impl_ReadPage.l0 k a1 (wrap64 ((l3.length:Int)-1)) l2 l3) else (some (⟨#[]⟩:ByteArray))))=some r:=h
 clear h
 replace H:=z1a H
 obtain ⟨t0,A2,H⟩:=H
 replace H:(if t0=true then (impl_ReadPage.l0 k a1 (wrap64 ((l3.length:Int)-1)) l2 l3) else (some (⟨#[]⟩:ByteArray)))=some r:=H
 have A3:=zz A2
 clear A2
 by_cases c4:t0=true
 ·subst c4
  rw [if_pos rfl] at H
  have H':=zz H
  clear H
  go_enter Try.func120,Try.ntmps120
  go_wp2_with (first|((with_reducible refine zg (N:=2) rfl ?_);refine zA rfl (N:=2) rfl (cs:= #[.slice A0 l2.length c0,.slice A1 l3.length c1]) (t:=32) zq26 ?_;intro g0 hg w5 hbox hb;have B0:=zz hbox;have G0:=zz (zq12:w.heap.size≤g0);replace HB:=zz (zf zq0 hb);clear hb hbox hg;obtain ⟨_,_,_,_⟩:=zba B0.1)|((with_reducible refine zn (f:=113) rfl ?_);refine zQ (some 8) rfl rfl Try.func113 zq8 rfl #[.agg #[.slice A0 l2.length c0,.slice A1 l3.length c1],.int .i64 a1] rfl zq6 ?_;(with_reducible refine (impl_isPage.calls _ _ l2 _ _ l3 a1 true _ ?side1 ?side2 ?side3 ?side4 A3.1).mono ?_);(case side1=>repeat (first|exact (Kd.C_below R0.1 HB.1)|(with_reducible refine Kd.C_alloc ?_ _)|(with_reducible refine Kd.C_drewN ?_ _)|(with_reducible refine Kd.C_drew ?_)));(case side2=>exact C0.1);(case side3=>repeat (first|exact (Kd.C_below R1.1 HB.1)|(with_reducible refine Kd.C_alloc ?_ _)|(with_reducible refine Kd.C_drewN ?_ _)|(with_reducible refine Kd.C_drew ?_)));(case side4=>exact C1.1);rintro e w7 ⟨rfl,hb⟩;refine ⟨_,rfl,?_⟩;replace B0:=zz (zj (g:=g0) (o:= .cells #[.slice A0 l2.length c0,.slice A1 l3.length c1] 32 (0,0)) (zq7 B0.1) hb);replace HB:=zz (zf (zq4 G0.1) hb);(try clear hb);(try clear hb2);(try clear hk);(try clear hi);obtain ⟨_,_,_,_⟩:=zba B0.1))
  go_loopg [5] k (fun kq v5 w'=>∃(x0:Int),v5= .int .i64 x0∧Z0 (impl_ReadPage.l0 kq a1 x0 l2 l3=some r)∧Z0 (kq≤k)∧Z0 (w'.heap[g0]?=some (.cells #[(.slice A0 l2.length c0),(.slice A1 l3.length c1)] 32 (0,0)))∧Z0 (Below w.heap.size w w'))
  case atStart=>exact ⟨(wrap64 ((l3.length:Int)-1)),zq10,H',⟨z2a _⟩,⟨by (with_reducible repeat (first|refine zC ?_ _|refine zH ?_|refine zo ?_ _));exact B0.1⟩,⟨zq4 G0.1⟩⟩
  case round=>
   clear H'
   try clear c4
   try clear hcz6_0
   try clear hcz6_1
   try clear hcz8_0
   try clear hcz8_1
   try clear hfz6_0
   try clear hfz6_1
   try clear hfz8_0
   try clear hfz8_1
   obtain ⟨x0,rfl,HA,HK1,B0,HB⟩:=hrel
   cases gk with
   |zero=>exact absurd HA.1 (by simp [impl_ReadPage.l0])
   |succ k1=>
    have H:=HA.1
    clear HA
    simp only [impl_ReadPage.l0] at H
    by_cases c9:x0≥0
    ·rw [if_pos c9] at H
     have c9b0:decide (0≤x0)=true:=z6 c9
     clear c9
     by_cases c10:0≤x0
     ·rw [if_pos c10] at H
      have c10b0:=z6 c10
      clear c10
      by_cases c13:x0<(l3.length:Int)
      ·rw [if_pos c13] at H
       have c11b0:=z6 c13
       clear c13
       by_cases c14:((zm l3 x0).f0)=a1
       ·rw [if_pos c14] at H
        have c17:(((zm l3 x0).f0)==a1)=true:=beq_iff_eq.mpr c14
        have c18:(((zm l3 x0).f0) !=a1)=false:=bne_eq_false_iff_eq.mpr c14
        clear c14
        obtain rfl:=z5a H
        have hcz13_0:wr.cell? ⟨g0,0,none⟩=some (.slice A0 l2.length c0):=(zd B0.1 0).trans rfl
        have hcz13_1:wr.cell? ⟨g0,1,none⟩=some (.slice A1 l3.length c1):=(zd B0.1 1).trans rfl
        have hfz13_0:=zh B0.1 0
        have hfz13_1:=zh B0.1 1
        exact zq97
       ·rw [if_neg c14] at H
        have c17:(((zm l3 x0).f0)==a1)=false:=beq_eq_false_iff_ne.mpr c14
        have c18:(((zm l3 x0).f0) !=a1)=true:=bne_iff_ne.mpr c14
        have H':=zz H
        clear H
        have hcz14_0:wr.cell? ⟨g0,0,none⟩=some (.slice A0 l2.length c0):=(zd B0.1 0).trans rfl
        have hcz14_1:wr.cell? ⟨g0,1,none⟩=some (.slice A1 l3.length c1):=(zd B0.1 1).trans rfl
        have hfz14_0:=zh B0.1 0
        have hfz14_1:=zh B0.1 1
        exact zq101
      ·rw [if_neg c13] at H
       exact absurd H zq29
     ·rw [if_neg c10] at H
      exact absurd H zq29
    ·rw [if_neg c9] at H
     have c9b0:decide (0≤x0)=false:=z7 c9
     clear c9
     by_cases c19:0≤a1
     ·rw [if_pos c19] at H
      have c15b0:=z6 c19
      clear c19
      by_cases c20:a1<(l2.length:Int)
      ·rw [if_pos c20] at H
       have c16b0:=z6 c20
       clear c20
       obtain rfl:=z5a H
       have hcz17_0:wr.cell? ⟨g0,0,none⟩=some (.slice A0 l2.length c0):=(zd B0.1 0).trans rfl
       have hcz17_1:wr.cell? ⟨g0,1,none⟩=some (.slice A1 l3.length c1):=(zd B0.1 1).trans rfl
       have hfz17_0:=zh B0.1 0
       have hfz17_1:=zh B0.1 1
       have p2:0≤(a1:Int):=z8 zq11
       have q2:a1<(l2.length:Int):=z8 zq11
       obtain ⟨ad239,e2,k5⟩:=Kd.at_string R0.1 a1 p2 q2
       exact zq156
      ·rw [if_neg c20] at H
       exact absurd H zq29
     ·rw [if_neg c19] at H
      exact absurd H zq29
 ·replace c4:=Bool.eq_false_iff.mpr c4
  subst c4
  rw [if_neg (show ¬(false=true) by decide)] at H
  obtain rfl:=z5a H
  go_enter Try.func120,Try.ntmps120
  go_wp2_with (first|((with_reducible refine zg (N:=2) rfl ?_);refine zA rfl (N:=2) rfl (cs:= #[.slice A0 l2.length c0,.slice A1 l3.length c1]) (t:=32) zq26 ?_;intro g0 hg w18 hbox hb;have B0:=zz hbox;have G0:=zz (zq12:w.heap.size≤g0);replace HB:=zz (zf zq0 hb);clear hb hbox hg;obtain ⟨_,_,_,_⟩:=zba B0.1)|((with_reducible refine zn (f:=113) rfl ?_);refine zQ (some 8) rfl rfl Try.func113 zq8 rfl #[.agg #[.slice A0 l2.length c0,.slice A1 l3.length c1],.int .i64 a1] rfl zq6 ?_;(with_reducible refine (impl_isPage.calls _ _ l2 _ _ l3 a1 false _ ?side1 ?side2 ?side3 ?side4 A3.1).mono ?_);(case side1=>repeat (first|exact (Kd.C_below R0.1 HB.1)|(with_reducible refine Kd.C_alloc ?_ _)|(with_reducible refine Kd.C_drewN ?_ _)|(with_reducible refine Kd.C_drew ?_)));(case side2=>exact C0.1);(case side3=>repeat (first|exact (Kd.C_below R1.1 HB.1)|(with_reducible refine Kd.C_alloc ?_ _)|(with_reducible refine Kd.C_drewN ?_ _)|(with_reducible refine Kd.C_drew ?_)));(case side4=>exact C1.1);rintro e w20 ⟨rfl,hb⟩;refine ⟨_,rfl,?_⟩;replace B0:=zz (zj (g:=g0) (o:= .cells #[.slice A0 l2.length c0,.slice A1 l3.length c1] 32 (0,0)) (zq7 B0.1) hb);replace HB:=zz (zf (zq4 G0.1) hb);(try clear hb);(try clear hb2);(try clear hk);(try clear hi)))
  exact zq115
end Go.Proofs.Ytonhdiemjgdcnaa.PFnExactGivePage
