import Derived.Test.YtonhdiemjgdcnaaGreatCW15
import Derived.ProofKit
import Derived.OpenShut
import Derived.Deep.Slices
import Derived.ShutString
import Derived.ChangeOld
set_option maxHeartbeats 64000000
set_option maxRecDepth 100000
set_option linter.unusedVariables false
set_option linter.unusedSimpArgs false
namespace Go.Proofs
theorem zq90{P Q0:Prop}(q0:Q0)(h:Q0→P:=by intro q0;rw [List.size_toArray,show (d2:List Value).length=20 from q0];kernel_rfl):P:=h q0
theorem zq116{P:Prop}(h:P:=by have o:=O.1;simp only [Off2,Off2.Off2A,List.set_cons_zero,List.set_cons_succ,Fct.box,Fct.made];and_intros<;>first|trivial|omega):P:=h
end Go.Proofs
namespace Go.Proofs.YtonhdiemjgdcnaaGreat.PFnExactGivePage
open Go.RowKit Go.Proofs.YtonhdiemjgdcnaaGreatW.PrintWords Go.Proofs.YtonhdiemjgdcnaaGreatW.PrintLast Go.Proofs.YtonhdiemjgdcnaaGreatW.PrintMore
attribute [local go_sem] zma zla zwa zxa zba zca zoa zna
theorem implEndW_f (k:Nat) (a0:List ByteArray) (a1:List S110) (x:S40) (rs:List S135) (y:S40) (l0:List ByteArray) (l1:List S110) (l2:Int) (l3 l4 l5:List Int) (n:Int) (bf:Bool) {cs:List Value} (w:World) (h:kStore.K w ((a0,a1),x,rs,(y,(l0,l1,l2,l3,l4,l5),n),false,bf) cs) (f1:impl_cloneDisk.f a0 a1=some (a0,a1)) (f2:impl_cloneMeta.f k x.f0 x.f1 x.f2 x.f3=some (x.f0,x.f1,x.f2,x.f3)) (f3:∀r∈rs,impl_cloneMeta.f k r.f1.f0 r.f1.f1 r.f1.f2 r.f1.f3=some (r.f1.f0,r.f1.f1,r.f1.f2,r.f1.f3)) (f4:impl_cloneMeta.f k y.f0 y.f1 y.f2 y.f3=some (y.f0,y.f1,y.f2,y.f3)) (f5:((l0.length≤2000000∧l1.length≤2000000)∧l3.length≤2000000∧l4.length≤2000000∧l5.length≤2000000)) (hl:rs.length≤2000000):
  Calls Tryz.prog 26 #[.agg cs.toArray] w fun e w'=>∃ds:List Value,e= .returned (.tuple #[.agg ds.toArray,.int .i64 2])∧kStore.M w' w.heap.size (Fr w w') ((a0,a1),x,rs,(y,(l0,l1,l2,l3,l4,l5),n),false,bf) ds∧Below w.heap.size w w':=by
 have KS0:=h
 obtain ⟨cD,_,rfl,hD,cM,_,rfl,hM,cR,_,rfl,hR,cT,_,rfl,hT,cB,cF,rfl,hW,hF⟩:=h
 obtain rfl:cB=[.bool false]:=hW
 obtain rfl:cF=[.bool bf]:=hF
 have hR2:=hR
 obtain ⟨AR,ccR,rfl,mR,rR⟩:=hR
 obtain ⟨cs,hcs⟩:∃cs,cs=cD++(cM++([.slice AR rs.length ccR]++(cT++([.bool false]++[.bool bf])))):=⟨_,rfl⟩
 rw [←hcs] at KS0 ⊢
 have Ecs:=zz hcs
 have KS:=zz KS0
 have LD:=zz (show cD.length=2 from kDisk.K_len hD)
 have LM:=zz (show cM.length=4 from k40.K_len hM)
 have LT:=zz (show cT.length=11 from kTxn.K_len hT)
 have Lcs:=zz (show cs.length=20 from kStore.K_len KS0)
 have F1:=zz f1
 have F2:=zz f2
 have F3:=zz f3
 have F4:=zz f4
 have F5:=zz f5
 have FL:=zz hl
 clear KS0 hD hM hT hR2 mR rR hcs f1 f2 f3 f4 f5 hl
 have O:=zz (z3a w.heap.size)
 have E:=zz (Env.start w)
 go_enter Tryz.func26,Tryz.ntmps26
 go_wp2_with (first|((with_reducible refine zd (N:=10) rfl ?_);replace O:=zz (And.intro E.1.le O.1);replace E:=zz (E.1.alloc cs 67 (g:=w.heap.size) rfl);replace E:=zz (E.1.alloc Z67 67 (g:=(w.heap.size+1)) zq38);refine zy rfl 4 _ rfl w.heap.size 18 (cD++(cM++([.slice AR rs.length ccR]++cT))) (.bool false) [.bool bf] rfl (E.1.box 1 rfl) zq19 zq41 Tryz.underlying4 rfl ?_)|((with_reducible refine zd (N:=12) rfl ?_);refine zf rfl 67 _ rfl w.heap.size 0 [] cs [] _ rfl (E.1.box 1 rfl) zq6 (rfl) Tryz.underlying67 rfl zq59 ?_))
 ((with_reducible refine (cloneStore_o k a0 a1 x rs y l0 l1 l2 l3 l4 l5 n false bf _ (E.1.K KS.1) F1.1 F2.1 F3.1 F4.1 F5.1 FL.1).mono ?_);rintro e w1_ ⟨d0,rfl,M0,hb⟩)
 have L0:=zz (show d0.length=20 from Kd.K_len _ (Kd.K_of_M _ M0));have Q0:=zz (zU (Kd.K_of_M _ M0))
 obtain ⟨n3_,m4_,hT,hE⟩:=E.1.made_ M0 hb;replace O:=zz (And.intro hT O.1);replace E:=zz hE;clear hT hE M0 hb
 go_wp2_with (first|((with_reducible refine zm (t:=67) (p:=2) rfl ?_);refine zn rfl 67 _ _ rfl rfl (w.heap.size+1) 0 d0 [] Z67 [] rfl rfl (E.1.box 1 rfl) zq6 (rfl) (zq40 L0.1) (zq24 L0.1) Q0.1 ?_;intro W5_ hp hn;replace E:=E.1.put2 1 hp hn zq7;clear hp hn))
 have BX:=zz (show _=some (Obj.cells (d0:List Value).toArray 67 (0,0)) from by first|exact (E.1.box 1 rfl)|simpa only [aA,aN,aL] using (E.1.box 1 rfl))
 refine bodyPost_ret (zG (rs:=[.cell 2 67,.tmp 3]) rfl zq38 (.cell (w.heap.size+1) 67 _ _ _ rfl BX.1 Tryz.underlying67 rfl (zq109 L0.1) (.tmp .nil))) rfl ?_
 exact ⟨_,rfl,(zGb (d:=kStore) (E.1.made 0 rfl) (z3a _)),E.1.below⟩
theorem implEndW_x (k:Nat) (a0:List ByteArray) (a1:List S110) (x:S40) (rs:List S135) (y:S40) (l0:List ByteArray) (l1:List S110) (l2:Int) (l3 l4 l5:List Int) (n:Int) (e0:List ByteArray) (e1:List S110) (z:S40) (ok:Bool) (zs:((List ByteArray×List S110)×S40×List S135×(S40×(List ByteArray×List S110×Int×List Int×List Int×List Int)×Int)×Bool×Bool)) (c:Int) {cs:List Value} (w:World) (h:kStore.K w ((a0,a1),x,rs,(y,(l0,l1,l2,l3,l4,l5),n),true,true) cs) (hc:zAb k (y,(l0,l1,l2,l3,l4,l5),n) (e0,e1) z ok) (hst:ImplStop k ((a0,a1),x,rs,(y,(l0,l1,l2,l3,l4,l5),n),true,true) zs c):
  Calls Tryz.prog 26 #[.agg cs.toArray] w fun e w'=>∃ds:List Value,e= .returned (.tuple #[.agg ds.toArray,.int .i64 3])∧kStore.M w' w.heap.size (Fr w w') zs ds∧Below w.heap.size w w':=by
 have KS0:=h
 obtain ⟨cD,_,rfl,hD,cM,_,rfl,hM,cR,_,rfl,hR,cT,_,rfl,hT,cB,cF,rfl,hW,hF⟩:=h
 obtain rfl:cB=[.bool true]:=hW
 obtain rfl:cF=[.bool true]:=hF
 have hR2:=hR
 obtain ⟨AR,ccR,rfl,mR,rR⟩:=hR
 obtain ⟨cs,hcs⟩:∃cs,cs=cD++(cM++([.slice AR rs.length ccR]++(cT++([.bool true]++[.bool true])))):=⟨_,rfl⟩
 rw [←hcs] at KS0 ⊢
 have Ecs:=zz hcs
 have KS:=zz KS0
 have KT:=zz (show kTxn.K w (y,(l0,l1,l2,l3,l4,l5),n) cT from hT)
 have LD:=zz (show cD.length=2 from kDisk.K_len hD)
 have LM:=zz (show cM.length=4 from k40.K_len hM)
 have LT:=zz (show cT.length=11 from kTxn.K_len hT)
 have Lcs:=zz (show cs.length=20 from kStore.K_len KS0)
 have HC:=zz hc
 have HS:=zz hst
 clear KS0 hD hM hT hR2 mR rR hcs hc hst
 have O:=zz (z3a w.heap.size)
 have E:=zz (Env.start w)
 go_enter Tryz.func26,Tryz.ntmps26
 go_wp2_with (first|((with_reducible refine zd (N:=10) rfl ?_);replace O:=zz (And.intro E.1.le O.1);replace E:=zz (E.1.alloc cs 67 (g:=w.heap.size) rfl);replace E:=zz (E.1.alloc Z67 67 (g:=(w.heap.size+1)) zq38);refine zy rfl 4 _ rfl w.heap.size 18 (cD++(cM++([.slice AR rs.length ccR]++cT))) (.bool true) [.bool true] rfl (E.1.box 1 rfl) zq19 zq41 Tryz.underlying4 rfl ?_)|((with_reducible refine zd (N:=16) rfl ?_);refine zf rfl 46 _ rfl w.heap.size 7 (cD++(cM++[.slice AR rs.length ccR])) cT ([.bool true]++[.bool true]) _ rfl (E.1.box 1 rfl) zq19 zq45 Tryz.underlying46 rfl zq113 ?_))
 ((with_reducible refine (implCommit_c k (y,(l0,l1,l2,l3,l4,l5),n) (e0,e1) z ok _ (E.1.K KT.1) HC.1).mono ?_);rintro e w5 ⟨d0,d1,rfl,⟨ga,gb,gc,gd,hO,M0,M1⟩,hb⟩)
 have L0:=zz (show d0.length=2 from Kd.K_len _ (Kd.K_of_M _ M0));have Q0:=zz (zU (Kd.K_of_M _ M0))
 have L1:=zz (show d1.length=4 from Kd.K_len _ (Kd.K_of_M _ M1));have Q1:=zz (zU (Kd.K_of_M _ M1))
 obtain ⟨n4_,m5_,n6_,m7_,hn⟩:∃p q r s,p=ga∧q=gb∧r=gc∧s=gd:=⟨_,_,_,_,rfl,rfl,rfl,rfl⟩
 obtain ⟨rfl,rfl,rfl,rfl⟩:=hn
 obtain ⟨t8_,hT,hE⟩:=E.1.made22 hO M0 M1 hb;replace O:=zz (And.intro hT O.1);replace E:=zz hE;clear hT hE hO hb M0 M1
 go_wp2_with (first|((with_reducible refine zm (t:=37) (p:=4) rfl ?_);replace O:=zz (And.intro E.1.le O.1);replace E:=zz (E.1.alloc [.slice none 0 0,.slice none 0 0] 37 (g:=w5.heap.size) rfl);replace E:=zz (E.1.alloc Z40 40 (g:=(w5.heap.size+1)) zq38);refine zn rfl 37 _ _ rfl rfl w5.heap.size 0 d0 [] [.slice none 0 0,.slice none 0 0] [] rfl rfl (E.1.box 1 rfl) zq6 (rfl) (zq40 L0.1) (zq24 L0.1) Q0.1 ?_;intro W9_ hp hn;replace E:=E.1.put2 1 hp hn zq7;clear hp hn)|((with_reducible refine zm (t:=40) (p:=5) rfl ?_);refine zn rfl 40 _ _ rfl rfl (w5.heap.size+1) 0 d1 [] Z40 [] rfl rfl (E.1.box 0 rfl) zq6 (rfl) (zq40 L1.1) (zq24 L1.1) Q1.1 ?_;intro W10_ hp hn;replace E:=E.1.put2 0 hp hn zq7;clear hp hn)|((with_reducible refine zd (N:=22) rfl ?_);refine zy rfl 4 _ rfl w.heap.size 19 (cD++(cM++([.slice AR rs.length ccR]++(cT++[.bool true])))) (.bool true) [] rfl (E.1.box 5 rfl) zq19 zq41 Tryz.underlying4 rfl ?_)|((with_reducible refine zd (N:=28) rfl ?_);refine zf rfl 67 _ rfl w.heap.size 0 [] cs [] _ rfl (E.1.box 5 rfl) zq6 (rfl) Tryz.underlying67 rfl zq59 ?_))
 ((with_reducible refine (implStop_c k ((a0,a1),x,rs,(y,(l0,l1,l2,l3,l4,l5),n),true,true) zs c _ (E.1.K KS.1) HS.1).mono ?_);rintro e w6 ⟨d2,rfl,M2,hb⟩)
 have q:=E.1.made4 O.1 20 rfl M2 hb;clear O E M2 hb;obtain ⟨n13_,m14_,L2,Q2,O,E⟩:=q
 go_wp2_with (first|((with_reducible refine zm (t:=67) (p:=7) rfl ?_);replace O:=zz (And.intro E.1.le O.1);replace E:=zz (E.1.alloc Z67 67 (g:=w6.heap.size) rfl);refine zn rfl 67 _ _ rfl rfl w6.heap.size 0 d2 [] Z67 [] rfl rfl (E.1.box 0 rfl) zq6 (rfl) (zq40 L2.1) (zq24 L2.1) Q2.1 ?_;intro W15_ hp hn;replace E:=E.1.put2 0 hp hn zq7;clear hp hn)|((with_reducible refine zd (N:=32) rfl ?_);refine zf rfl 67 _ rfl w6.heap.size 0 [] d2 [] _ rfl (E.1.box 0 rfl) zq6 (rfl) Tryz.underlying67 rfl (zq24 L2.1) ?_)|((with_reducible refine zm (t:=67) (p:=2) rfl ?_);refine zn rfl 67 _ _ rfl rfl (w.heap.size+1) 0 d2 [] Z67 [] rfl rfl (E.1.box 6 rfl) zq6 (rfl) (zq40 L2.1) (zq24 L2.1) Q2.1 ?_;intro W16_ hp hn;replace E:=E.1.put2 6 hp hn zq7;clear hp hn))
 have BX:=zz (show _=some (Obj.cells (d2:List Value).toArray 67 (0,0)) from by first|exact (E.1.box 6 rfl)|simpa only [aA,aN,aL] using (E.1.box 6 rfl))
 refine bodyPost_ret (zG (rs:=[.cell 2 67,.tmp 3]) rfl zq38 (.cell (w.heap.size+1) 67 _ _ _ rfl BX.1 Tryz.underlying67 rfl (zq90 L2.1) (.tmp .nil))) rfl ?_
 exact ⟨_,rfl,(zGb (d:=kStore) (E.1.made 1 rfl) (z3a _)),E.1.below⟩
theorem implEndW_y (k:Nat) (a0:List ByteArray) (a1:List S110) (x:S40) (rs:List S135) (y:S40) (l0:List ByteArray) (l1:List S110) (l2:Int) (l3 l4 l5:List Int) (n:Int) (e0:List ByteArray) (e1:List S110) (z:S40) (zs:((List ByteArray×List S110)×S40×List S135×(S40×(List ByteArray×List S110×Int×List Int×List Int×List Int)×Int)×Bool×Bool)) (c:Int) {cs:List Value} (w:World) (h:kStore.K w ((a0,a1),x,rs,(y,(l0,l1,l2,l3,l4,l5),n),true,false) cs) (hc:zAb k (y,(l0,l1,l2,l3,l4,l5),n) (e0,e1) z false) (hst:ImplStop k ((a0,a1),x,rs,(y,(l0,l1,l2,l3,l4,l5),n),true,false) zs c):
  Calls Tryz.prog 26 #[.agg cs.toArray] w fun e w'=>∃ds:List Value,e= .returned (.tuple #[.agg ds.toArray,.int .i64 3])∧kStore.M w' w.heap.size (Fr w w') zs ds∧Below w.heap.size w w':=by
 have KS0:=h
 obtain ⟨cD,_,rfl,hD,cM,_,rfl,hM,cR,_,rfl,hR,cT,_,rfl,hT,cB,cF,rfl,hW,hF⟩:=h
 obtain rfl:cB=[.bool true]:=hW
 obtain rfl:cF=[.bool false]:=hF
 have hR2:=hR
 obtain ⟨AR,ccR,rfl,mR,rR⟩:=hR
 obtain ⟨cs,hcs⟩:∃cs,cs=cD++(cM++([.slice AR rs.length ccR]++(cT++([.bool true]++[.bool false])))):=⟨_,rfl⟩
 rw [←hcs] at KS0 ⊢
 have Ecs:=zz hcs
 have KS:=zz KS0
 have KT:=zz (show kTxn.K w (y,(l0,l1,l2,l3,l4,l5),n) cT from hT)
 have LD:=zz (show cD.length=2 from kDisk.K_len hD)
 have LM:=zz (show cM.length=4 from k40.K_len hM)
 have LT:=zz (show cT.length=11 from kTxn.K_len hT)
 have Lcs:=zz (show cs.length=20 from kStore.K_len KS0)
 have HC:=zz hc
 have HS:=zz hst
 clear KS0 hD hM hT hR2 mR rR hcs hc hst
 have O:=zz (z3a w.heap.size)
 have E:=zz (Env.start w)
 go_enter Tryz.func26,Tryz.ntmps26
 go_wp2_with (first|((with_reducible refine zd (N:=10) rfl ?_);replace O:=zz (And.intro E.1.le O.1);replace E:=zz (E.1.alloc cs 67 (g:=w.heap.size) rfl);replace E:=zz (E.1.alloc Z67 67 (g:=(w.heap.size+1)) zq38);refine zy rfl 4 _ rfl w.heap.size 18 (cD++(cM++([.slice AR rs.length ccR]++cT))) (.bool true) [.bool false] rfl (E.1.box 1 rfl) zq19 zq41 Tryz.underlying4 rfl ?_)|((with_reducible refine zd (N:=16) rfl ?_);refine zf rfl 46 _ rfl w.heap.size 7 (cD++(cM++[.slice AR rs.length ccR])) cT ([.bool true]++[.bool false]) _ rfl (E.1.box 1 rfl) zq19 zq45 Tryz.underlying46 rfl zq113 ?_))
 ((with_reducible refine (implCommit_c k (y,(l0,l1,l2,l3,l4,l5),n) (e0,e1) z false _ (E.1.K KT.1) HC.1).mono ?_);rintro e w5 ⟨d0,d1,rfl,⟨ga,gb,gc,gd,hO,M0,M1⟩,hb⟩)
 have L0:=zz (show d0.length=2 from Kd.K_len _ (Kd.K_of_M _ M0));have Q0:=zz (zU (Kd.K_of_M _ M0))
 have L1:=zz (show d1.length=4 from Kd.K_len _ (Kd.K_of_M _ M1));have Q1:=zz (zU (Kd.K_of_M _ M1))
 obtain ⟨n4_,m5_,n6_,m7_,hn⟩:∃p q r s,p=ga∧q=gb∧r=gc∧s=gd:=⟨_,_,_,_,rfl,rfl,rfl,rfl⟩
 obtain ⟨rfl,rfl,rfl,rfl⟩:=hn
 obtain ⟨t8_,hT,hE⟩:=E.1.made22 hO M0 M1 hb;replace O:=zz (And.intro hT O.1);replace E:=zz hE;clear hT hE hO hb M0 M1
 go_wp2_with (first|((with_reducible refine zm (t:=37) (p:=4) rfl ?_);replace O:=zz (And.intro E.1.le O.1);replace E:=zz (E.1.alloc [.slice none 0 0,.slice none 0 0] 37 (g:=w5.heap.size) rfl);replace E:=zz (E.1.alloc Z40 40 (g:=(w5.heap.size+1)) zq38);refine zn rfl 37 _ _ rfl rfl w5.heap.size 0 d0 [] [.slice none 0 0,.slice none 0 0] [] rfl rfl (E.1.box 1 rfl) zq6 (rfl) (zq40 L0.1) (zq24 L0.1) Q0.1 ?_;intro W9_ hp hn;replace E:=E.1.put2 1 hp hn zq7;clear hp hn)|((with_reducible refine zm (t:=40) (p:=5) rfl ?_);refine zn rfl 40 _ _ rfl rfl (w5.heap.size+1) 0 d1 [] Z40 [] rfl rfl (E.1.box 0 rfl) zq6 (rfl) (zq40 L1.1) (zq24 L1.1) Q1.1 ?_;intro W10_ hp hn;replace E:=E.1.put2 0 hp hn zq7;clear hp hn)|((with_reducible refine zd (N:=22) rfl ?_);refine zy rfl 4 _ rfl w.heap.size 19 (cD++(cM++([.slice AR rs.length ccR]++(cT++[.bool true])))) (.bool false) [] rfl (E.1.box 5 rfl) zq19 zq41 Tryz.underlying4 rfl ?_)|((with_reducible refine zd (N:=28) rfl ?_);refine zf rfl 67 _ rfl w.heap.size 0 [] cs [] _ rfl (E.1.box 5 rfl) zq6 (rfl) Tryz.underlying67 rfl zq59 ?_))
 ((with_reducible refine (implStop_c k ((a0,a1),x,rs,(y,(l0,l1,l2,l3,l4,l5),n),true,false) zs c _ (E.1.K KS.1) HS.1).mono ?_);rintro e w6 ⟨d2,rfl,M2,hb⟩)
 have q:=E.1.made4 O.1 20 rfl M2 hb;clear O E M2 hb;obtain ⟨n13_,m14_,L2,Q2,O,E⟩:=q
 go_wp2_with (first|((with_reducible refine zm (t:=67) (p:=7) rfl ?_);replace O:=zz (And.intro E.1.le O.1);replace E:=zz (E.1.alloc Z67 67 (g:=w6.heap.size) rfl);refine zn rfl 67 _ _ rfl rfl w6.heap.size 0 d2 [] Z67 [] rfl rfl (E.1.box 0 rfl) zq6 (rfl) (zq40 L2.1) (zq24 L2.1) Q2.1 ?_;intro W15_ hp hn;replace E:=E.1.put2 0 hp hn zq7;clear hp hn)|((with_reducible refine zd (N:=32) rfl ?_);refine zf rfl 67 _ rfl w6.heap.size 0 [] d2 [] _ rfl (E.1.box 0 rfl) zq6 (rfl) Tryz.underlying67 rfl (zq24 L2.1) ?_)|((with_reducible refine zm (t:=67) (p:=2) rfl ?_);refine zn rfl 67 _ _ rfl rfl (w.heap.size+1) 0 d2 [] Z67 [] rfl rfl (E.1.box 6 rfl) zq6 (rfl) (zq40 L2.1) (zq24 L2.1) Q2.1 ?_;intro W16_ hp hn;replace E:=E.1.put2 6 hp hn zq7;clear hp hn))
 have BX:=zz (show _=some (Obj.cells (d2:List Value).toArray 67 (0,0)) from by first|exact (E.1.box 6 rfl)|simpa only [aA,aN,aL] using (E.1.box 6 rfl))
 refine bodyPost_ret (zG (rs:=[.cell 2 67,.tmp 3]) rfl zq38 (.cell (w.heap.size+1) 67 _ _ _ rfl BX.1 Tryz.underlying67 rfl (zq90 L2.1) (.tmp .nil))) rfl ?_
 exact ⟨_,rfl,(zGb (d:=kStore) (E.1.made 1 rfl) (z3a _)),E.1.below⟩
theorem implEndW_t (k:Nat) (a0:List ByteArray) (a1:List S110) (x:S40) (rs:List S135) (y:S40) (l0:List ByteArray) (l1:List S110) (l2:Int) (l3 l4 l5:List Int) (n:Int) (e0:List ByteArray) (e1:List S110) (z:S40) {cs:List Value} (w:World) (h:kStore.K w ((a0,a1),x,rs,(y,(l0,l1,l2,l3,l4,l5),n),true,false) cs) (f1:impl_cloneDisk.f a0 a1=some (a0,a1)) (f2:impl_cloneMeta.f k x.f0 x.f1 x.f2 x.f3=some (x.f0,x.f1,x.f2,x.f3)) (f3:∀r∈rs,impl_cloneMeta.f k r.f1.f0 r.f1.f1 r.f1.f2 r.f1.f3=some (r.f1.f0,r.f1.f1,r.f1.f2,r.f1.f3)) (f4:impl_cloneMeta.f k y.f0 y.f1 y.f2 y.f3=some (y.f0,y.f1,y.f2,y.f3)) (f5:((l0.length≤2000000∧l1.length≤2000000)∧l3.length≤2000000∧l4.length≤2000000∧l5.length≤2000000)) (hl:rs.length≤2000000) (hc:zAb k (y,(l0,l1,l2,l3,l4,l5),n) (e0,e1) z true):
  Calls Tryz.prog 26 #[.agg cs.toArray] w fun e w'=>∃ds:List Value,e= .returned (.tuple #[.agg ds.toArray,.int .i64 0])∧kStore.M w' w.heap.size (Fr w w') ((e0,e1),z,rs,(⟨0,0,0,[]⟩,([],[],0,[],[],[]),0),false,false) ds∧Below w.heap.size w w':=by
 have KS0:=h
 obtain ⟨cD,_,rfl,hD,cM,_,rfl,hM,cR,_,rfl,hR,cT,_,rfl,hT,cB,cF,rfl,hW,hF⟩:=h
 obtain rfl:cB=[.bool true]:=hW
 obtain rfl:cF=[.bool false]:=hF
 have hR2:=hR
 obtain ⟨AR,ccR,rfl,mR,rR⟩:=hR
 obtain ⟨cs,hcs⟩:∃cs,cs=cD++(cM++([.slice AR rs.length ccR]++(cT++([.bool true]++[.bool false])))):=⟨_,rfl⟩
 rw [←hcs] at KS0 ⊢
 have Ecs:=zz hcs
 have KS:=zz KS0
 have KT:=zz (show kTxn.K w (y,(l0,l1,l2,l3,l4,l5),n) cT from hT)
 have LD:=zz (show cD.length=2 from kDisk.K_len hD)
 have LM:=zz (show cM.length=4 from k40.K_len hM)
 have LT:=zz (show cT.length=11 from kTxn.K_len hT)
 have Lcs:=zz (show cs.length=20 from kStore.K_len KS0)
 have F1:=zz f1
 have F2:=zz f2
 have F3:=zz f3
 have F4:=zz f4
 have F5:=zz f5
 have FL:=zz hl
 have HC:=zz hc
 clear KS0 hD hM hT hR2 mR rR hcs f1 f2 f3 f4 f5 hl hc
 have O:=zz (z3a w.heap.size)
 have E:=zz (Env.start w)
 go_enter Tryz.func26,Tryz.ntmps26
 go_wp2_with (first|((with_reducible refine zd (N:=10) rfl ?_);replace O:=zz (And.intro E.1.le O.1);replace E:=zz (E.1.alloc cs 67 (g:=w.heap.size) rfl);replace E:=zz (E.1.alloc Z67 67 (g:=(w.heap.size+1)) zq38);refine zy rfl 4 _ rfl w.heap.size 18 (cD++(cM++([.slice AR rs.length ccR]++cT))) (.bool true) [.bool false] rfl (E.1.box 1 rfl) zq19 zq41 Tryz.underlying4 rfl ?_)|((with_reducible refine zd (N:=16) rfl ?_);refine zf rfl 46 _ rfl w.heap.size 7 (cD++(cM++[.slice AR rs.length ccR])) cT ([.bool true]++[.bool false]) _ rfl (E.1.box 1 rfl) zq19 zq45 Tryz.underlying46 rfl zq113 ?_))
 ((with_reducible refine (implCommit_c k (y,(l0,l1,l2,l3,l4,l5),n) (e0,e1) z true _ (E.1.K KT.1) HC.1).mono ?_);rintro e w5 ⟨d0,d1,rfl,⟨ga,gb,gc,gd,hO,M0,M1⟩,hb⟩)
 have L0:=zz (show d0.length=2 from Kd.K_len _ (Kd.K_of_M _ M0));have Q0:=zz (zU (Kd.K_of_M _ M0))
 have L1:=zz (show d1.length=4 from Kd.K_len _ (Kd.K_of_M _ M1));have Q1:=zz (zU (Kd.K_of_M _ M1))
 obtain ⟨n4_,m5_,n6_,m7_,hn⟩:∃p q r s,p=ga∧q=gb∧r=gc∧s=gd:=⟨_,_,_,_,rfl,rfl,rfl,rfl⟩
 obtain ⟨rfl,rfl,rfl,rfl⟩:=hn
 obtain ⟨t8_,hT,hE⟩:=E.1.made22 hO M0 M1 hb;replace O:=zz (And.intro hT O.1);replace E:=zz hE;clear hT hE hO hb M0 M1
 go_wp2_with (first|((with_reducible refine zm (t:=37) (p:=4) rfl ?_);replace O:=zz (And.intro E.1.le O.1);replace E:=zz (E.1.alloc [.slice none 0 0,.slice none 0 0] 37 (g:=w5.heap.size) rfl);replace E:=zz (E.1.alloc Z40 40 (g:=(w5.heap.size+1)) zq38);refine zn rfl 37 _ _ rfl rfl w5.heap.size 0 d0 [] [.slice none 0 0,.slice none 0 0] [] rfl rfl (E.1.box 1 rfl) zq6 (rfl) (zq40 L0.1) (zq24 L0.1) Q0.1 ?_;intro W9_ hp hn;replace E:=E.1.put2 1 hp hn zq7;clear hp hn)|((with_reducible refine zm (t:=40) (p:=5) rfl ?_);refine zn rfl 40 _ _ rfl rfl (w5.heap.size+1) 0 d1 [] Z40 [] rfl rfl (E.1.box 0 rfl) zq6 (rfl) (zq40 L1.1) (zq24 L1.1) Q1.1 ?_;intro W10_ hp hn;replace E:=E.1.put2 0 hp hn zq7;clear hp hn)|((with_reducible refine zd (N:=22) rfl ?_);refine zy rfl 4 _ rfl w.heap.size 19 (cD++(cM++([.slice AR rs.length ccR]++(cT++[.bool true])))) (.bool false) [] rfl (E.1.box 5 rfl) zq19 zq41 Tryz.underlying4 rfl ?_)|((with_reducible refine zd (N:=33) rfl ?_);refine zf rfl 67 _ rfl w.heap.size 0 [] cs [] _ rfl (E.1.box 5 rfl) zq6 (rfl) Tryz.underlying67 rfl zq59 ?_)|((with_reducible refine zd (N:=34) rfl ?_);refine zf rfl 37 _ rfl w5.heap.size 0 [] d0 [] _ rfl (E.1.box 1 rfl) zq6 (rfl) Tryz.underlying37 rfl (zq24 L0.1) ?_)|((with_reducible refine zd (N:=35) rfl ?_);refine zf rfl 40 _ rfl (w5.heap.size+1) 0 [] d1 [] _ rfl (E.1.box 0 rfl) zq6 (rfl) Tryz.underlying40 rfl (zq24 L1.1) ?_))
 ((with_reducible refine (stopped_o k a0 a1 x rs y l0 l1 l2 l3 l4 l5 n true false ((w.heap.size+1)+1) _ (E.1.K KS.1) (E.1.made 2 rfl) (E.1.made 3 rfl) (by have e:=E.1.below.size;exact e) zq67 F1.1 F2.1 F3.1 F4.1 F5.1 FL.1).mono ?_);rintro e w11_ ⟨d2,rfl,M2,hb⟩)
 have L2:=zz (show d2.length=20 from Kd.K_len _ (Kd.K_of_M _ M2));have Q2:=zz (zU (Kd.K_of_M _ M2))
 obtain ⟨m13_,hT,hE⟩:=E.1.hull_ M2 hb;replace O:=zz (And.intro hT O.1);replace E:=zz hE;clear hT hE M2 hb
 go_wp2_with (first|((with_reducible refine zm (t:=67) (p:=2) rfl ?_);refine zn rfl 67 _ _ rfl rfl (w.heap.size+1) 0 d2 [] Z67 [] rfl rfl (E.1.box 5 rfl) zq6 (rfl) (zq40 L2.1) (zq24 L2.1) Q2.1 ?_;intro W14_ hp hn;replace E:=E.1.put2 5 hp hn zq7;clear hp hn))
 have BX:=zz (show _=some (Obj.cells (d2:List Value).toArray 67 (0,0)) from by first|exact (E.1.box 5 rfl)|simpa only [aA,aN,aL] using (E.1.box 5 rfl))
 refine bodyPost_ret (zG (rs:=[.cell 2 67,.tmp 3]) rfl zq38 (.cell (w.heap.size+1) 67 _ _ _ rfl BX.1 Tryz.underlying67 rfl (zq90 L2.1) (.tmp .nil))) rfl ?_
 exact ⟨_,rfl,(zGb (d:=kStore) (E.1.made 0 rfl) (z3a _)),E.1.below⟩
theorem specEndW_f (k:Nat) (a0:List ByteArray) (a1:List S110) (x:S40) (rs:List S135) (y:S40) (l0:List ByteArray) (l1:List S110) (l2:Int) (l3 l4 l5:List Int) (n:Int) (bf:Bool) {cs:List Value} (w:World) (h:kStore.K w ((a0,a1),x,rs,(y,(l0,l1,l2,l3,l4,l5),n),false,bf) cs) (f1:a0.length≤2000000∧a1.length≤2000000) (f2:zua x) (f3:∀r∈rs,zua r.f1) (f4:zua y) (f5:((l0.length≤2000000∧l1.length≤2000000)∧l3.length≤2000000∧l4.length≤2000000∧l5.length≤2000000)) (hl:rs.length≤2000000):
  Calls Tryz.prog 24 #[.agg cs.toArray] w fun e w'=>∃ds:List Value,e= .returned (.tuple #[.agg ds.toArray,.int .i64 2])∧kStore.M w' w.heap.size (Fr w w') ((a0,a1),x,rs,(y,(l0,l1,l2,l3,l4,l5),n),false,bf) ds∧Below w.heap.size w w':=by
 have KS0:=h
 obtain ⟨cD,_,rfl,hD,cM,_,rfl,hM,cR,_,rfl,hR,cT,_,rfl,hT,cB,cF,rfl,hW,hF⟩:=h
 obtain rfl:cB=[.bool false]:=hW
 obtain rfl:cF=[.bool bf]:=hF
 have hR2:=hR
 obtain ⟨AR,ccR,rfl,mR,rR⟩:=hR
 obtain ⟨cs,hcs⟩:∃cs,cs=cD++(cM++([.slice AR rs.length ccR]++(cT++([.bool false]++[.bool bf])))):=⟨_,rfl⟩
 rw [←hcs] at KS0 ⊢
 have Ecs:=zz hcs
 have KS:=zz KS0
 have LD:=zz (show cD.length=2 from kDisk.K_len hD)
 have LM:=zz (show cM.length=4 from k40.K_len hM)
 have LT:=zz (show cT.length=11 from kTxn.K_len hT)
 have Lcs:=zz (show cs.length=20 from kStore.K_len KS0)
 have F1:=zz f1
 have F2:=zz f2
 have F3:=zz f3
 have F4:=zz f4
 have F5:=zz f5
 have FL:=zz hl
 clear KS0 hD hM hT hR2 mR rR hcs f1 f2 f3 f4 f5 hl
 have O:=zz (z3a w.heap.size)
 have E:=zz (Env.start w)
 go_enter Tryz.func24,Tryz.ntmps24
 go_wp2_with (first|((with_reducible refine zd (N:=10) rfl ?_);replace O:=zz (And.intro E.1.le O.1);replace E:=zz (E.1.alloc cs 67 (g:=w.heap.size) rfl);replace E:=zz (E.1.alloc Z67 67 (g:=(w.heap.size+1)) zq38);refine zy rfl 4 _ rfl w.heap.size 18 (cD++(cM++([.slice AR rs.length ccR]++cT))) (.bool false) [.bool bf] rfl (E.1.box 1 rfl) zq19 zq41 Tryz.underlying4 rfl ?_)|((with_reducible refine zd (N:=12) rfl ?_);refine zf rfl 67 _ rfl w.heap.size 0 [] cs [] _ rfl (E.1.box 1 rfl) zq6 (rfl) Tryz.underlying67 rfl zq59 ?_))
 ((with_reducible refine (l12Copy_o a0 a1 x rs y l0 l1 l2 l3 l4 l5 n false bf _ (E.1.K KS.1) F1.1 F2.1 F3.1 F4.1 F5.1 FL.1).mono ?_);rintro e w1_ ⟨d0,rfl,M0,hb⟩)
 have L0:=zz (show d0.length=20 from Kd.K_len _ (Kd.K_of_M _ M0));have Q0:=zz (zU (Kd.K_of_M _ M0))
 obtain ⟨n3_,m4_,hT,hE⟩:=E.1.made_ M0 hb;replace O:=zz (And.intro hT O.1);replace E:=zz hE;clear hT hE M0 hb
 go_wp2_with (first|((with_reducible refine zm (t:=67) (p:=2) rfl ?_);refine zn rfl 67 _ _ rfl rfl (w.heap.size+1) 0 d0 [] Z67 [] rfl rfl (E.1.box 1 rfl) zq6 (rfl) (zq40 L0.1) (zq24 L0.1) Q0.1 ?_;intro W5_ hp hn;replace E:=E.1.put2 1 hp hn zq7;clear hp hn))
 have BX:=zz (show _=some (Obj.cells (d0:List Value).toArray 67 (0,0)) from by first|exact (E.1.box 1 rfl)|simpa only [aA,aN,aL] using (E.1.box 1 rfl))
 refine bodyPost_ret (zG (rs:=[.cell 2 67,.tmp 3]) rfl zq38 (.cell (w.heap.size+1) 67 _ _ _ rfl BX.1 Tryz.underlying67 rfl (zq109 L0.1) (.tmp .nil))) rfl ?_
 exact ⟨_,rfl,(zGb (d:=kStore) (E.1.made 0 rfl) (z3a _)),E.1.below⟩
theorem specEndW_x (k:Nat) (a0:List ByteArray) (a1:List S110) (x:S40) (rs:List S135) (y:S40) (l0:List ByteArray) (l1:List S110) (l2:Int) (l3 l4 l5:List Int) (n:Int) (e0:List ByteArray) (e1:List S110) (z:S40) (ok:Bool) (zs:((List ByteArray×List S110)×S40×List S135×(S40×(List ByteArray×List S110×Int×List Int×List Int×List Int)×Int)×Bool×Bool)) (c:Int) {cs:List Value} (w:World) (h:kStore.K w ((a0,a1),x,rs,(y,(l0,l1,l2,l3,l4,l5),n),true,true) cs) (hc:zCb k (y,(l0,l1,l2,l3,l4,l5),n) (e0,e1) z ok) (hst:SpecStop k ((a0,a1),x,rs,(y,(l0,l1,l2,l3,l4,l5),n),true,true) zs c):
  Calls Tryz.prog 24 #[.agg cs.toArray] w fun e w'=>∃ds:List Value,e= .returned (.tuple #[.agg ds.toArray,.int .i64 3])∧kStore.M w' w.heap.size (Fr w w') zs ds∧Below w.heap.size w w':=by
 have KS0:=h
 obtain ⟨cD,_,rfl,hD,cM,_,rfl,hM,cR,_,rfl,hR,cT,_,rfl,hT,cB,cF,rfl,hW,hF⟩:=h
 obtain rfl:cB=[.bool true]:=hW
 obtain rfl:cF=[.bool true]:=hF
 have hR2:=hR
 obtain ⟨AR,ccR,rfl,mR,rR⟩:=hR
 obtain ⟨cs,hcs⟩:∃cs,cs=cD++(cM++([.slice AR rs.length ccR]++(cT++([.bool true]++[.bool true])))):=⟨_,rfl⟩
 rw [←hcs] at KS0 ⊢
 have Ecs:=zz hcs
 have KS:=zz KS0
 have KT:=zz (show kTxn.K w (y,(l0,l1,l2,l3,l4,l5),n) cT from hT)
 have LD:=zz (show cD.length=2 from kDisk.K_len hD)
 have LM:=zz (show cM.length=4 from k40.K_len hM)
 have LT:=zz (show cT.length=11 from kTxn.K_len hT)
 have Lcs:=zz (show cs.length=20 from kStore.K_len KS0)
 have HC:=zz hc
 have HS:=zz hst
 clear KS0 hD hM hT hR2 mR rR hcs hc hst
 have O:=zz (z3a w.heap.size)
 have E:=zz (Env.start w)
 go_enter Tryz.func24,Tryz.ntmps24
 go_wp2_with (first|((with_reducible refine zd (N:=10) rfl ?_);replace O:=zz (And.intro E.1.le O.1);replace E:=zz (E.1.alloc cs 67 (g:=w.heap.size) rfl);replace E:=zz (E.1.alloc Z67 67 (g:=(w.heap.size+1)) zq38);refine zy rfl 4 _ rfl w.heap.size 18 (cD++(cM++([.slice AR rs.length ccR]++cT))) (.bool true) [.bool true] rfl (E.1.box 1 rfl) zq19 zq41 Tryz.underlying4 rfl ?_)|((with_reducible refine zd (N:=16) rfl ?_);refine zf rfl 46 _ rfl w.heap.size 7 (cD++(cM++[.slice AR rs.length ccR])) cT ([.bool true]++[.bool true]) _ rfl (E.1.box 1 rfl) zq19 zq45 Tryz.underlying46 rfl zq113 ?_))
 ((with_reducible refine (specCommit_c k (y,(l0,l1,l2,l3,l4,l5),n) (e0,e1) z ok _ (E.1.K KT.1) HC.1).mono ?_);rintro e w5 ⟨d0,d1,rfl,⟨ga,gb,gc,gd,hO,M0,M1⟩,hb⟩)
 have L0:=zz (show d0.length=2 from Kd.K_len _ (Kd.K_of_M _ M0));have Q0:=zz (zU (Kd.K_of_M _ M0))
 have L1:=zz (show d1.length=4 from Kd.K_len _ (Kd.K_of_M _ M1));have Q1:=zz (zU (Kd.K_of_M _ M1))
 obtain ⟨n4_,m5_,n6_,m7_,hn⟩:∃p q r s,p=ga∧q=gb∧r=gc∧s=gd:=⟨_,_,_,_,rfl,rfl,rfl,rfl⟩
 obtain ⟨rfl,rfl,rfl,rfl⟩:=hn
 obtain ⟨t8_,hT,hE⟩:=E.1.made22 hO M0 M1 hb;replace O:=zz (And.intro hT O.1);replace E:=zz hE;clear hT hE hO hb M0 M1
 go_wp2_with (first|((with_reducible refine zm (t:=37) (p:=4) rfl ?_);replace O:=zz (And.intro E.1.le O.1);replace E:=zz (E.1.alloc [.slice none 0 0,.slice none 0 0] 37 (g:=w5.heap.size) rfl);replace E:=zz (E.1.alloc Z40 40 (g:=(w5.heap.size+1)) zq38);refine zn rfl 37 _ _ rfl rfl w5.heap.size 0 d0 [] [.slice none 0 0,.slice none 0 0] [] rfl rfl (E.1.box 1 rfl) zq6 (rfl) (zq40 L0.1) (zq24 L0.1) Q0.1 ?_;intro W9_ hp hn;replace E:=E.1.put2 1 hp hn zq7;clear hp hn)|((with_reducible refine zm (t:=40) (p:=5) rfl ?_);refine zn rfl 40 _ _ rfl rfl (w5.heap.size+1) 0 d1 [] Z40 [] rfl rfl (E.1.box 0 rfl) zq6 (rfl) (zq40 L1.1) (zq24 L1.1) Q1.1 ?_;intro W10_ hp hn;replace E:=E.1.put2 0 hp hn zq7;clear hp hn)|((with_reducible refine zd (N:=22) rfl ?_);refine zy rfl 4 _ rfl w.heap.size 19 (cD++(cM++([.slice AR rs.length ccR]++(cT++[.bool true])))) (.bool true) [] rfl (E.1.box 5 rfl) zq19 zq41 Tryz.underlying4 rfl ?_)|((with_reducible refine zd (N:=28) rfl ?_);refine zf rfl 67 _ rfl w.heap.size 0 [] cs [] _ rfl (E.1.box 5 rfl) zq6 (rfl) Tryz.underlying67 rfl zq59 ?_))
 ((with_reducible refine (specStop_c k ((a0,a1),x,rs,(y,(l0,l1,l2,l3,l4,l5),n),true,true) zs c _ (E.1.K KS.1) HS.1).mono ?_);rintro e w6 ⟨d2,rfl,M2,hb⟩)
 have q:=E.1.made4 O.1 20 rfl M2 hb;clear O E M2 hb;obtain ⟨n13_,m14_,L2,Q2,O,E⟩:=q
 go_wp2_with (first|((with_reducible refine zm (t:=67) (p:=7) rfl ?_);replace O:=zz (And.intro E.1.le O.1);replace E:=zz (E.1.alloc Z67 67 (g:=w6.heap.size) rfl);refine zn rfl 67 _ _ rfl rfl w6.heap.size 0 d2 [] Z67 [] rfl rfl (E.1.box 0 rfl) zq6 (rfl) (zq40 L2.1) (zq24 L2.1) Q2.1 ?_;intro W15_ hp hn;replace E:=E.1.put2 0 hp hn zq7;clear hp hn)|((with_reducible refine zd (N:=32) rfl ?_);refine zf rfl 67 _ rfl w6.heap.size 0 [] d2 [] _ rfl (E.1.box 0 rfl) zq6 (rfl) Tryz.underlying67 rfl (zq24 L2.1) ?_)|((with_reducible refine zm (t:=67) (p:=2) rfl ?_);refine zn rfl 67 _ _ rfl rfl (w.heap.size+1) 0 d2 [] Z67 [] rfl rfl (E.1.box 6 rfl) zq6 (rfl) (zq40 L2.1) (zq24 L2.1) Q2.1 ?_;intro W16_ hp hn;replace E:=E.1.put2 6 hp hn zq7;clear hp hn))
 have BX:=zz (show _=some (Obj.cells (d2:List Value).toArray 67 (0,0)) from by first|exact (E.1.box 6 rfl)|simpa only [aA,aN,aL] using (E.1.box 6 rfl))
 refine bodyPost_ret (zG (rs:=[.cell 2 67,.tmp 3]) rfl zq38 (.cell (w.heap.size+1) 67 _ _ _ rfl BX.1 Tryz.underlying67 rfl (zq90 L2.1) (.tmp .nil))) rfl ?_
 exact ⟨_,rfl,(zGb (d:=kStore) (E.1.made 1 rfl) (z3a _)),E.1.below⟩
theorem specEndW_y (k:Nat) (a0:List ByteArray) (a1:List S110) (x:S40) (rs:List S135) (y:S40) (l0:List ByteArray) (l1:List S110) (l2:Int) (l3 l4 l5:List Int) (n:Int) (e0:List ByteArray) (e1:List S110) (z:S40) (zs:((List ByteArray×List S110)×S40×List S135×(S40×(List ByteArray×List S110×Int×List Int×List Int×List Int)×Int)×Bool×Bool)) (c:Int) {cs:List Value} (w:World) (h:kStore.K w ((a0,a1),x,rs,(y,(l0,l1,l2,l3,l4,l5),n),true,false) cs) (hc:zCb k (y,(l0,l1,l2,l3,l4,l5),n) (e0,e1) z false) (hst:SpecStop k ((a0,a1),x,rs,(y,(l0,l1,l2,l3,l4,l5),n),true,false) zs c):
  Calls Tryz.prog 24 #[.agg cs.toArray] w fun e w'=>∃ds:List Value,e= .returned (.tuple #[.agg ds.toArray,.int .i64 3])∧kStore.M w' w.heap.size (Fr w w') zs ds∧Below w.heap.size w w':=by
 have KS0:=h
 obtain ⟨cD,_,rfl,hD,cM,_,rfl,hM,cR,_,rfl,hR,cT,_,rfl,hT,cB,cF,rfl,hW,hF⟩:=h
 obtain rfl:cB=[.bool true]:=hW
 obtain rfl:cF=[.bool false]:=hF
 have hR2:=hR
 obtain ⟨AR,ccR,rfl,mR,rR⟩:=hR
 obtain ⟨cs,hcs⟩:∃cs,cs=cD++(cM++([.slice AR rs.length ccR]++(cT++([.bool true]++[.bool false])))):=⟨_,rfl⟩
 rw [←hcs] at KS0 ⊢
 have Ecs:=zz hcs
 have KS:=zz KS0
 have KT:=zz (show kTxn.K w (y,(l0,l1,l2,l3,l4,l5),n) cT from hT)
 have LD:=zz (show cD.length=2 from kDisk.K_len hD)
 have LM:=zz (show cM.length=4 from k40.K_len hM)
 have LT:=zz (show cT.length=11 from kTxn.K_len hT)
 have Lcs:=zz (show cs.length=20 from kStore.K_len KS0)
 have HC:=zz hc
 have HS:=zz hst
 clear KS0 hD hM hT hR2 mR rR hcs hc hst
 have O:=zz (z3a w.heap.size)
 have E:=zz (Env.start w)
 go_enter Tryz.func24,Tryz.ntmps24
 go_wp2_with (first|((with_reducible refine zd (N:=10) rfl ?_);replace O:=zz (And.intro E.1.le O.1);replace E:=zz (E.1.alloc cs 67 (g:=w.heap.size) rfl);replace E:=zz (E.1.alloc Z67 67 (g:=(w.heap.size+1)) zq38);refine zy rfl 4 _ rfl w.heap.size 18 (cD++(cM++([.slice AR rs.length ccR]++cT))) (.bool true) [.bool false] rfl (E.1.box 1 rfl) zq19 zq41 Tryz.underlying4 rfl ?_)|((with_reducible refine zd (N:=16) rfl ?_);refine zf rfl 46 _ rfl w.heap.size 7 (cD++(cM++[.slice AR rs.length ccR])) cT ([.bool true]++[.bool false]) _ rfl (E.1.box 1 rfl) zq19 zq45 Tryz.underlying46 rfl zq113 ?_))
 ((with_reducible refine (specCommit_c k (y,(l0,l1,l2,l3,l4,l5),n) (e0,e1) z false _ (E.1.K KT.1) HC.1).mono ?_);rintro e w5 ⟨d0,d1,rfl,⟨ga,gb,gc,gd,hO,M0,M1⟩,hb⟩)
 have L0:=zz (show d0.length=2 from Kd.K_len _ (Kd.K_of_M _ M0));have Q0:=zz (zU (Kd.K_of_M _ M0))
 have L1:=zz (show d1.length=4 from Kd.K_len _ (Kd.K_of_M _ M1));have Q1:=zz (zU (Kd.K_of_M _ M1))
 obtain ⟨n4_,m5_,n6_,m7_,hn⟩:∃p q r s,p=ga∧q=gb∧r=gc∧s=gd:=⟨_,_,_,_,rfl,rfl,rfl,rfl⟩
 obtain ⟨rfl,rfl,rfl,rfl⟩:=hn
 obtain ⟨t8_,hT,hE⟩:=E.1.made22 hO M0 M1 hb;replace O:=zz (And.intro hT O.1);replace E:=zz hE;clear hT hE hO hb M0 M1
 go_wp2_with (first|((with_reducible refine zm (t:=37) (p:=4) rfl ?_);replace O:=zz (And.intro E.1.le O.1);replace E:=zz (E.1.alloc [.slice none 0 0,.slice none 0 0] 37 (g:=w5.heap.size) rfl);replace E:=zz (E.1.alloc Z40 40 (g:=(w5.heap.size+1)) zq38);refine zn rfl 37 _ _ rfl rfl w5.heap.size 0 d0 [] [.slice none 0 0,.slice none 0 0] [] rfl rfl (E.1.box 1 rfl) zq6 (rfl) (zq40 L0.1) (zq24 L0.1) Q0.1 ?_;intro W9_ hp hn;replace E:=E.1.put2 1 hp hn zq7;clear hp hn)|((with_reducible refine zm (t:=40) (p:=5) rfl ?_);refine zn rfl 40 _ _ rfl rfl (w5.heap.size+1) 0 d1 [] Z40 [] rfl rfl (E.1.box 0 rfl) zq6 (rfl) (zq40 L1.1) (zq24 L1.1) Q1.1 ?_;intro W10_ hp hn;replace E:=E.1.put2 0 hp hn zq7;clear hp hn)|((with_reducible refine zd (N:=22) rfl ?_);refine zy rfl 4 _ rfl w.heap.size 19 (cD++(cM++([.slice AR rs.length ccR]++(cT++[.bool true])))) (.bool false) [] rfl (E.1.box 5 rfl) zq19 zq41 Tryz.underlying4 rfl ?_)|((with_reducible refine zd (N:=28) rfl ?_);refine zf rfl 67 _ rfl w.heap.size 0 [] cs [] _ rfl (E.1.box 5 rfl) zq6 (rfl) Tryz.underlying67 rfl zq59 ?_))
 ((with_reducible refine (specStop_c k ((a0,a1),x,rs,(y,(l0,l1,l2,l3,l4,l5),n),true,false) zs c _ (E.1.K KS.1) HS.1).mono ?_);rintro e w6 ⟨d2,rfl,M2,hb⟩)
 have q:=E.1.made4 O.1 20 rfl M2 hb;clear O E M2 hb;obtain ⟨n13_,m14_,L2,Q2,O,E⟩:=q
 go_wp2_with (first|((with_reducible refine zm (t:=67) (p:=7) rfl ?_);replace O:=zz (And.intro E.1.le O.1);replace E:=zz (E.1.alloc Z67 67 (g:=w6.heap.size) rfl);refine zn rfl 67 _ _ rfl rfl w6.heap.size 0 d2 [] Z67 [] rfl rfl (E.1.box 0 rfl) zq6 (rfl) (zq40 L2.1) (zq24 L2.1) Q2.1 ?_;intro W15_ hp hn;replace E:=E.1.put2 0 hp hn zq7;clear hp hn)|((with_reducible refine zd (N:=32) rfl ?_);refine zf rfl 67 _ rfl w6.heap.size 0 [] d2 [] _ rfl (E.1.box 0 rfl) zq6 (rfl) Tryz.underlying67 rfl (zq24 L2.1) ?_)|((with_reducible refine zm (t:=67) (p:=2) rfl ?_);refine zn rfl 67 _ _ rfl rfl (w.heap.size+1) 0 d2 [] Z67 [] rfl rfl (E.1.box 6 rfl) zq6 (rfl) (zq40 L2.1) (zq24 L2.1) Q2.1 ?_;intro W16_ hp hn;replace E:=E.1.put2 6 hp hn zq7;clear hp hn))
 have BX:=zz (show _=some (Obj.cells (d2:List Value).toArray 67 (0,0)) from by first|exact (E.1.box 6 rfl)|simpa only [aA,aN,aL] using (E.1.box 6 rfl))
 refine bodyPost_ret (zG (rs:=[.cell 2 67,.tmp 3]) rfl zq38 (.cell (w.heap.size+1) 67 _ _ _ rfl BX.1 Tryz.underlying67 rfl (zq90 L2.1) (.tmp .nil))) rfl ?_
 exact ⟨_,rfl,(zGb (d:=kStore) (E.1.made 1 rfl) (z3a _)),E.1.below⟩
theorem specEndW_t (k:Nat) (a0:List ByteArray) (a1:List S110) (x:S40) (rs:List S135) (y:S40) (l0:List ByteArray) (l1:List S110) (l2:Int) (l3 l4 l5:List Int) (n:Int) (e0:List ByteArray) (e1:List S110) (z:S40) {cs:List Value} (w:World) (h:kStore.K w ((a0,a1),x,rs,(y,(l0,l1,l2,l3,l4,l5),n),true,false) cs) (f1:a0.length≤2000000∧a1.length≤2000000) (f2:zua x) (f3:∀r∈rs,zua r.f1) (f4:zua y) (f5:((l0.length≤2000000∧l1.length≤2000000)∧l3.length≤2000000∧l4.length≤2000000∧l5.length≤2000000)) (hl:rs.length≤2000000) (hc:zCb k (y,(l0,l1,l2,l3,l4,l5),n) (e0,e1) z true):
  Calls Tryz.prog 24 #[.agg cs.toArray] w fun e w'=>∃ds:List Value,e= .returned (.tuple #[.agg ds.toArray,.int .i64 0])∧kStore.M w' w.heap.size (Fr w w') ((e0,e1),z,rs,(⟨0,0,0,[]⟩,([],[],0,[],[],[]),0),false,false) ds∧Below w.heap.size w w':=by
 have KS0:=h
 obtain ⟨cD,_,rfl,hD,cM,_,rfl,hM,cR,_,rfl,hR,cT,_,rfl,hT,cB,cF,rfl,hW,hF⟩:=h
 obtain rfl:cB=[.bool true]:=hW
 obtain rfl:cF=[.bool false]:=hF
 have hR2:=hR
 obtain ⟨AR,ccR,rfl,mR,rR⟩:=hR
 obtain ⟨cs,hcs⟩:∃cs,cs=cD++(cM++([.slice AR rs.length ccR]++(cT++([.bool true]++[.bool false])))):=⟨_,rfl⟩
 rw [←hcs] at KS0 ⊢
 have Ecs:=zz hcs
 have KS:=zz KS0
 have KT:=zz (show kTxn.K w (y,(l0,l1,l2,l3,l4,l5),n) cT from hT)
 have LD:=zz (show cD.length=2 from kDisk.K_len hD)
 have LM:=zz (show cM.length=4 from k40.K_len hM)
 have LT:=zz (show cT.length=11 from kTxn.K_len hT)
 have Lcs:=zz (show cs.length=20 from kStore.K_len KS0)
 have F1:=zz f1
 have F2:=zz f2
 have F3:=zz f3
 have F4:=zz f4
 have F5:=zz f5
 have FL:=zz hl
 have HC:=zz hc
 clear KS0 hD hM hT hR2 mR rR hcs f1 f2 f3 f4 f5 hl hc
 have O:=zz (z3a w.heap.size)
 have E:=zz (Env.start w)
 go_enter Tryz.func24,Tryz.ntmps24
 go_wp2_with (first|((with_reducible refine zd (N:=10) rfl ?_);replace O:=zz (And.intro E.1.le O.1);replace E:=zz (E.1.alloc cs 67 (g:=w.heap.size) rfl);replace E:=zz (E.1.alloc Z67 67 (g:=(w.heap.size+1)) zq38);refine zy rfl 4 _ rfl w.heap.size 18 (cD++(cM++([.slice AR rs.length ccR]++cT))) (.bool true) [.bool false] rfl (E.1.box 1 rfl) zq19 zq41 Tryz.underlying4 rfl ?_)|((with_reducible refine zd (N:=16) rfl ?_);refine zf rfl 46 _ rfl w.heap.size 7 (cD++(cM++[.slice AR rs.length ccR])) cT ([.bool true]++[.bool false]) _ rfl (E.1.box 1 rfl) zq19 zq45 Tryz.underlying46 rfl zq113 ?_))
 ((with_reducible refine (specCommit_c k (y,(l0,l1,l2,l3,l4,l5),n) (e0,e1) z true _ (E.1.K KT.1) HC.1).mono ?_);rintro e w5 ⟨d0,d1,rfl,⟨ga,gb,gc,gd,hO,M0,M1⟩,hb⟩)
 have L0:=zz (show d0.length=2 from Kd.K_len _ (Kd.K_of_M _ M0));have Q0:=zz (zU (Kd.K_of_M _ M0))
 have L1:=zz (show d1.length=4 from Kd.K_len _ (Kd.K_of_M _ M1));have Q1:=zz (zU (Kd.K_of_M _ M1))
 obtain ⟨n4_,m5_,n6_,m7_,hn⟩:∃p q r s,p=ga∧q=gb∧r=gc∧s=gd:=⟨_,_,_,_,rfl,rfl,rfl,rfl⟩
 obtain ⟨rfl,rfl,rfl,rfl⟩:=hn
 obtain ⟨t8_,hT,hE⟩:=E.1.made22 hO M0 M1 hb;replace O:=zz (And.intro hT O.1);replace E:=zz hE;clear hT hE hO hb M0 M1
 go_wp2_with (first|((with_reducible refine zm (t:=37) (p:=4) rfl ?_);replace O:=zz (And.intro E.1.le O.1);replace E:=zz (E.1.alloc [.slice none 0 0,.slice none 0 0] 37 (g:=w5.heap.size) rfl);replace E:=zz (E.1.alloc Z40 40 (g:=(w5.heap.size+1)) zq38);refine zn rfl 37 _ _ rfl rfl w5.heap.size 0 d0 [] [.slice none 0 0,.slice none 0 0] [] rfl rfl (E.1.box 1 rfl) zq6 (rfl) (zq40 L0.1) (zq24 L0.1) Q0.1 ?_;intro W9_ hp hn;replace E:=E.1.put2 1 hp hn zq7;clear hp hn)|((with_reducible refine zm (t:=40) (p:=5) rfl ?_);refine zn rfl 40 _ _ rfl rfl (w5.heap.size+1) 0 d1 [] Z40 [] rfl rfl (E.1.box 0 rfl) zq6 (rfl) (zq40 L1.1) (zq24 L1.1) Q1.1 ?_;intro W10_ hp hn;replace E:=E.1.put2 0 hp hn zq7;clear hp hn)|((with_reducible refine zd (N:=22) rfl ?_);refine zy rfl 4 _ rfl w.heap.size 19 (cD++(cM++([.slice AR rs.length ccR]++(cT++[.bool true])))) (.bool false) [] rfl (E.1.box 5 rfl) zq19 zq41 Tryz.underlying4 rfl ?_)|((with_reducible refine zd (N:=33) rfl ?_);refine zf rfl 67 _ rfl w.heap.size 0 [] cs [] _ rfl (E.1.box 5 rfl) zq6 (rfl) Tryz.underlying67 rfl zq59 ?_)|((with_reducible refine zd (N:=34) rfl ?_);refine zf rfl 37 _ rfl w5.heap.size 0 [] d0 [] _ rfl (E.1.box 1 rfl) zq6 (rfl) Tryz.underlying37 rfl (zq24 L0.1) ?_)|((with_reducible refine zd (N:=35) rfl ?_);refine zf rfl 40 _ rfl (w5.heap.size+1) 0 [] d1 [] _ rfl (E.1.box 0 rfl) zq6 (rfl) Tryz.underlying40 rfl (zq24 L1.1) ?_))
 ((with_reducible refine (l12Rest_o a0 a1 x rs y l0 l1 l2 l3 l4 l5 n true false ((w.heap.size+1)+1) _ (E.1.K KS.1) (E.1.made 2 rfl) (E.1.made 3 rfl) (by have e:=E.1.below.size;exact e) zq67 F1.1 F2.1 F3.1 F4.1 F5.1 FL.1).mono ?_);rintro e w11_ ⟨d2,rfl,M2,hb⟩)
 have L2:=zz (show d2.length=20 from Kd.K_len _ (Kd.K_of_M _ M2));have Q2:=zz (zU (Kd.K_of_M _ M2))
 obtain ⟨m13_,hT,hE⟩:=E.1.hull_ M2 hb;replace O:=zz (And.intro hT O.1);replace E:=zz hE;clear hT hE M2 hb
 go_wp2_with (first|((with_reducible refine zm (t:=67) (p:=2) rfl ?_);refine zn rfl 67 _ _ rfl rfl (w.heap.size+1) 0 d2 [] Z67 [] rfl rfl (E.1.box 5 rfl) zq6 (rfl) (zq40 L2.1) (zq24 L2.1) Q2.1 ?_;intro W14_ hp hn;replace E:=E.1.put2 5 hp hn zq7;clear hp hn))
 have BX:=zz (show _=some (Obj.cells (d2:List Value).toArray 67 (0,0)) from by first|exact (E.1.box 5 rfl)|simpa only [aA,aN,aL] using (E.1.box 5 rfl))
 refine bodyPost_ret (zG (rs:=[.cell 2 67,.tmp 3]) rfl zq38 (.cell (w.heap.size+1) 67 _ _ _ rfl BX.1 Tryz.underlying67 rfl (zq90 L2.1) (.tmp .nil))) rfl ?_
 exact ⟨_,rfl,(zGb (d:=kStore) (E.1.made 0 rfl) (z3a _)),E.1.below⟩
def ImplEndW (k:Nat) (d z:((List ByteArray×List S110)×S40×List S135×(S40×(List ByteArray×List S110×Int×List Int×List Int×List Int)×Int)×Bool×Bool)) (c:Int):Prop:=CloneImpl k d∧((d.2.2.2.2.1=false∧z=d∧c=2)∨(d.2.2.2.2.1=true∧∃q m ok,zAb k d.2.2.2.1 q m ok∧(((d.2.2.2.2.2=true∨ok=false)∧c=3∧∃c2,ImplStop k d z c2)∨(d.2.2.2.2.2=false∧ok=true∧c=0∧z=(q,m,d.2.2.1,(⟨0,0,0,[]⟩,([],[],0,[],[],[]),0),false,false)))))
theorem implEndW_c (k:Nat) (d z:((List ByteArray×List S110)×S40×List S135×(S40×(List ByteArray×List S110×Int×List Int×List Int×List Int)×Int)×Bool×Bool)) (c:Int) {cs:List Value} (w:World) (h:kStore.K w d cs) (hf:ImplEndW k d z c):
  Calls Tryz.prog 26 #[.agg cs.toArray] w fun e w'=>∃ds:List Value,e= .returned (.tuple #[.agg ds.toArray,.int .i64 c])∧kStore.M w' w.heap.size (Fr w w') z ds∧Below w.heap.size w w':=by
 obtain ⟨⟨a0,a1⟩,x,rs,⟨y,⟨l0,l1,l2,l3,l4,l5⟩,n⟩,bw,bf⟩:=d
 obtain ⟨⟨f1,f2,f3,f4,f5,hl⟩,⟨hw,rfl,rfl⟩|⟨hw,⟨e0,e1⟩,m,ok,hc,⟨hx,rfl,c2,hst⟩|⟨hx,rfl,rfl,rfl⟩⟩⟩:=hf
 ·cases hw
  exact implEndW_f k a0 a1 x rs y l0 l1 l2 l3 l4 l5 n bf w h f1 f2 f3 f4 f5 hl
 ·cases hw
  rcases Bool.eq_false_or_eq_true bf with rfl|rfl
  ·exact implEndW_x k a0 a1 x rs y l0 l1 l2 l3 l4 l5 n e0 e1 m ok z c2 w h hc hst
  ·rcases hx with hx|rfl
   ·cases hx
   ·exact implEndW_y k a0 a1 x rs y l0 l1 l2 l3 l4 l5 n e0 e1 m z c2 w h hc hst
 ·cases hw
  cases hx
  exact implEndW_t k a0 a1 x rs y l0 l1 l2 l3 l4 l5 n e0 e1 m w h f1 f2 f3 f4 f5 hl hc
def SpecEndW (k:Nat) (d z:((List ByteArray×List S110)×S40×List S135×(S40×(List ByteArray×List S110×Int×List Int×List Int×List Int)×Int)×Bool×Bool)) (c:Int):Prop:=CloneSpec k d∧((d.2.2.2.2.1=false∧z=d∧c=2)∨(d.2.2.2.2.1=true∧∃q m ok,zCb k d.2.2.2.1 q m ok∧(((d.2.2.2.2.2=true∨ok=false)∧c=3∧∃c2,SpecStop k d z c2)∨(d.2.2.2.2.2=false∧ok=true∧c=0∧z=(q,m,d.2.2.1,(⟨0,0,0,[]⟩,([],[],0,[],[],[]),0),false,false)))))
theorem specEndW_c (k:Nat) (d z:((List ByteArray×List S110)×S40×List S135×(S40×(List ByteArray×List S110×Int×List Int×List Int×List Int)×Int)×Bool×Bool)) (c:Int) {cs:List Value} (w:World) (h:kStore.K w d cs) (hf:SpecEndW k d z c):
  Calls Tryz.prog 24 #[.agg cs.toArray] w fun e w'=>∃ds:List Value,e= .returned (.tuple #[.agg ds.toArray,.int .i64 c])∧kStore.M w' w.heap.size (Fr w w') z ds∧Below w.heap.size w w':=by
 obtain ⟨⟨a0,a1⟩,x,rs,⟨y,⟨l0,l1,l2,l3,l4,l5⟩,n⟩,bw,bf⟩:=d
 obtain ⟨⟨f1,f2,f3,f4,f5,hl⟩,⟨hw,rfl,rfl⟩|⟨hw,⟨e0,e1⟩,m,ok,hc,⟨hx,rfl,c2,hst⟩|⟨hx,rfl,rfl,rfl⟩⟩⟩:=hf
 ·cases hw
  exact specEndW_f k a0 a1 x rs y l0 l1 l2 l3 l4 l5 n bf w h f1 f2 f3 f4 f5 hl
 ·cases hw
  rcases Bool.eq_false_or_eq_true bf with rfl|rfl
  ·exact specEndW_x k a0 a1 x rs y l0 l1 l2 l3 l4 l5 n e0 e1 m ok z c2 w h hc hst
  ·rcases hx with hx|rfl
   ·cases hx
   ·exact specEndW_y k a0 a1 x rs y l0 l1 l2 l3 l4 l5 n e0 e1 m z c2 w h hc hst
 ·cases hw
  cases hx
  exact specEndW_t k a0 a1 x rs y l0 l1 l2 l3 l4 l5 n e0 e1 m w h f1 f2 f3 f4 f5 hl hc
theorem ew_small0 (k:Nat) (a0:((List ByteArray×List S156)×S24×List S132×(S24×(List ByteArray×List S156×Int×List Int×List Int×List Int)×Int)×Bool×Bool)) (r0:Int) {cs0:List Value} (w:World) (h0:kStoreL.K w a0 cs0) (hs0:szStore_f k a0 1048576=some r0) (hr0:r0<0):
  Calls Tryz.prog 5 #[.agg cs0.toArray] w fun e w'=>e= .returned (.bool true)∧Below w.heap.size w w':=by
 have KA0:=zz h0;have LA0:=zz (show cs0.length=20 from Kd.K_len _ h0);clear h0
 have HS0:=zz hs0;clear hs0
 replace hr0:decide (r0<0)=true:=z6 hr0
 have O:=zz (z3a w.heap.size)
 have E:=zz (Env.start w)
 go_enter Tryz.func5,Tryz.ntmps5
 go_wp2_with (first|((with_reducible refine zd (N:=14) rfl ?_);replace O:=zz (And.intro E.1.le O.1);replace E:=zz (E.1.alloc cs0 63 (g:=w.heap.size) rfl);refine zf rfl 63 _ rfl w.heap.size 0 [] cs0 [] _ rfl (E.1.box 0 rfl) zq6 (rfl) Tryz.underlying63 rfl (zq24 LA0.1) ?_))
 ((with_reducible refine (szStore_c k a0 1048576 r0 _ (E.1.K KA0.1) HS0.1).mono ?_);rintro e w1_ ⟨rfl,hb⟩)
 replace E:=zz (E.1.call hb);clear hb
 go_wp2_with fail
 go_ret
 exact ⟨rfl,E.1.below⟩
def ew_great_T10:Bool×List (List Nat×List Nat):=(true,[([],[]),([],[]),([1],[1]),([0,2,2],[0,2]),([3],[3])])
def ew_great_B10:List Nat:=[0,0,2,7,15]
theorem ew_great_ok10_0:regT (zFa Tryz.f5 10) ew_great_T10 ew_great_B10 [] (.t 0 (.t 1 (.e 2 (.e 3 (.p 4 .d)))))=true:=zq13
theorem ew_great (k:Nat) (a0:((List ByteArray×List S156)×S24×List S132×(S24×(List ByteArray×List S156×Int×List Int×List Int×List Int)×Int)×Bool×Bool)) (r0:Int) (d0 d1:((List ByteArray×List S110)×S40×List S135×(S40×(List ByteArray×List S110×Int×List Int×List Int×List Int)×Int)×Bool×Bool)) (z0 z2:((List ByteArray×List S110)×S40×List S135×(S40×(List ByteArray×List S110×Int×List Int×List Int×List Int)×Int)×Bool×Bool)) (z1:Int) (mk0:Int) (mg0:Int) {cs0:List Value} (w:World) (h0:kStoreL.K w a0 cs0) (hs0:szStore_f k a0 1048576=some r0) (ht0:ToStore k a0 d0) (hsp:SpecEndW k d0 z0 z1) (him:ImplEndW k d0 z0 z1) (heq0:EqStore k z0) (hex0:EqStore k d0) (hmk0:MarkStore k d0 1 d1 mk0) (hmg0:MarkStore k z0 1 z2 mg0) (hhd0:HeldStore k z2 1 mg0) (hr0:¬r0<0) (hm:¬mk0<0) (hg0:¬mg0<0):
  Calls Tryz.prog 5 #[.agg cs0.toArray] w fun e w'=>e= .returned (.bool true)∧Below w.heap.size w w':=by
 have KA0:=zz h0;have LA0:=zz (show cs0.length=20 from Kd.K_len _ h0);clear h0
 have HS0:=zz hs0;clear hs0
 have HT0:=zz ht0;clear ht0
 have HSP:=zz hsp;clear hsp
 have HIM:=zz him;clear him
 have HEQ0:=zz heq0;clear heq0
 have HEX0:=zz hex0;clear hex0
 have HMK0:=zz hmk0;clear hmk0
 have HMG0:=zz hmg0;clear hmg0
 have HHD0:=zz hhd0;clear hhd0
 replace hr0:decide (r0<0)=false:=z7 hr0
 replace hm:decide (mk0<0)=false:=z7 hm
 replace hg0:decide (mg0<0)=false:=z7 hg0
 have O:=zz (z3a w.heap.size)
 have E:=zz (Env.start w)
 go_enter Tryz.func5,Tryz.ntmps5
 go_wp2_with (first|((with_reducible refine zd (N:=14) rfl ?_);replace O:=zz (And.intro E.1.le O.1);replace E:=zz (E.1.alloc cs0 63 (g:=w.heap.size) rfl);refine zf rfl 63 _ rfl w.heap.size 0 [] cs0 [] _ rfl (E.1.box 0 rfl) zq6 (rfl) Tryz.underlying63 rfl (zq24 LA0.1) ?_))
 ((with_reducible refine (szStore_c k a0 1048576 r0 _ (E.1.K KA0.1) HS0.1).mono ?_);rintro e w1_ ⟨rfl,hb⟩)
 replace E:=zz (E.1.call hb);clear hb
 go_wp2_with (first|((with_reducible refine zd (N:=20) rfl ?_);refine zf rfl 63 _ rfl w.heap.size 0 [] cs0 [] _ rfl (E.1.box 0 rfl) zq6 (rfl) Tryz.underlying63 rfl (zq24 LA0.1) ?_))
 ((with_reducible refine (toStore_c k a0 d0 _ (E.1.K KA0.1) HT0.1).mono ?_);rintro e w2_ ⟨d3_,rfl,M0,hb⟩)
 have q:=E.1.made4 O.1 20 rfl M0 hb;clear O E M0 hb;obtain ⟨n4_,m5_,Ld3_,Od3_,O,E⟩:=q
 go_wp2_with fail
 ((with_reducible refine (specEndW_c k d0 z0 z1 _ (E.1.mk_ 0 rfl) HSP.1).mono ?_);rintro e w5 ⟨d2,rfl,M1,hb⟩)
 have q:=E.1.made4 O.1 20 rfl M1 hb;clear O E M1 hb;obtain ⟨n8_,m9_,L0,Q0,O,E⟩:=q
 go_wp2_with (first|((with_reducible refine zm (t:=67) (p:=4) rfl ?_);replace O:=zz (And.intro E.1.le O.1);replace E:=zz (E.1.alloc Z67 67 (g:=w5.heap.size) rfl);refine zn rfl 67 _ _ rfl rfl w5.heap.size 0 d2 [] Z67 [] rfl rfl (E.1.box 0 rfl) zq6 (rfl) (zq40 L0.1) (zq24 L0.1) Q0.1 ?_;intro W10_ hp hn;replace E:=E.1.put2 0 hp hn zq7;clear hp hn)|((with_reducible refine zd (N:=25) rfl ?_);refine zf rfl 63 _ rfl w.heap.size 0 [] cs0 [] _ rfl (E.1.box 3 rfl) zq6 (rfl) Tryz.underlying63 rfl (zq24 LA0.1) ?_))
 ((with_reducible refine (toStore_c k a0 d0 _ (E.1.K KA0.1) HT0.1).mono ?_);rintro e w6 ⟨d3,rfl,M2,hb⟩)
 have q:=E.1.made4 O.1 20 rfl M2 hb;clear O E M2 hb;obtain ⟨n13_,m14_,L1,Q1,O,E⟩:=q
 go_wp2_with (first|((with_reducible refine zm (t:=67) (p:=6) rfl ?_);replace O:=zz (And.intro E.1.le O.1);replace E:=zz (E.1.alloc Z67 67 (g:=w6.heap.size) rfl);refine zn rfl 67 _ _ rfl rfl w6.heap.size 0 d3 [] Z67 [] rfl rfl (E.1.box 0 rfl) zq6 (rfl) (zq40 L1.1) (zq24 L1.1) Q1.1 ?_;intro W15_ hp hn;replace E:=E.1.put2 0 hp hn zq7;clear hp hn)|((with_reducible refine zd (N:=28) rfl ?_);refine zf rfl 67 _ rfl w6.heap.size 0 [] d3 [] _ rfl (E.1.box 0 rfl) zq6 (rfl) Tryz.underlying67 rfl (zq24 L1.1) ?_))
 ((with_reducible refine (implEndW_c k d0 z0 z1 _ (E.1.mk_ 1 rfl) HIM.1).mono ?_);rintro e w7 ⟨d4,rfl,M3,hb⟩)
 have q:=E.1.made4 O.1 20 rfl M3 hb;clear O E M3 hb;obtain ⟨n18_,m19_,L2,Q2,O,E⟩:=q
 go_wp2_with (first|((with_reducible refine zm (t:=67) (p:=7) rfl ?_);replace O:=zz (And.intro E.1.le O.1);replace E:=zz (E.1.alloc Z67 67 (g:=w7.heap.size) rfl);refine zn rfl 67 _ _ rfl rfl w7.heap.size 0 d4 [] Z67 [] rfl rfl (E.1.box 0 rfl) zq6 (rfl) (zq40 L2.1) (zq24 L2.1) Q2.1 ?_;intro W20_ hp hn;replace E:=E.1.put2 0 hp hn zq7;clear hp hn)|((with_reducible refine zd (N:=32) rfl ?_);refine zf rfl 67 _ rfl w7.heap.size 0 [] d4 [] _ rfl (E.1.box 0 rfl) zq6 (rfl) Tryz.underlying67 rfl (zq24 L2.1) ?_)|((with_reducible refine zd (N:=33) rfl ?_);refine zf rfl 67 _ rfl w5.heap.size 0 [] d2 [] _ rfl (E.1.box 4 rfl) zq6 (rfl) Tryz.underlying67 rfl (zq24 L0.1) ?_))
 ((with_reducible refine (eqStore_c k z0 _ (E.1.mk_ 1 rfl) (E.1.mk_ 5 rfl) HEQ0.1).mono ?_);rintro e w21_ ⟨rfl,hb⟩)
 replace E:=zz (E.1.call hb);clear hb
 go_upto_region 10 with (fail)
 replace E:=zz E.1.drew
 refine zfa ew_great_ok10_0 (S:=fun w'=>w'.heap[w6.heap.size]?=some (.cells (([]++(d3++[])):List Value).toArray 67 (0,0))∧w'.heap[w.heap.size]?=some (.cells (cs0:List Value).toArray 63 (0,0))∧True) zq13 (fun _ _ _ _ h=>h) ⟨(E.1.box 2 rfl),(E.1.box 7 rfl),trivial⟩ (fun hHeld=> ?_)
 generalize hq:World.drew _=w22_ at hHeld ⊢;replace E:=E.1.to hq;clear hq
 refine zB (a':= ?_) rfl rfl zq22 67 _ rfl w6.heap.size 0 [] d3 [] _ rfl (fun w' hs=>hs.1) zq6 (rfl) Tryz.underlying67 rfl (zq24 L1.1) zq2 ?_
 refine zB (a':= ?_) rfl rfl zq22 63 _ rfl w.heap.size 0 [] cs0 [] _ rfl (fun w' hs=>hs.2.1) zq6 (rfl) Tryz.underlying63 rfl (zq24 LA0.1) zq2 ?_
 refine zS rfl (zC rfl Tryz.func25 zq13 rfl #[.agg cs0.toArray] zq22 rfl zq14 ?_)
 with_reducible refine (toStore_c k a0 d0 _ (E.1.K KA0.1) HT0.1).mono ?_
 rintro e w25_ ⟨d5,rfl,M4,hb⟩
 have q:=E.1.made4 O.1 20 rfl M4 hb;clear O E M4 hb;obtain ⟨n27_,m28_,Ld26_,Od26_,O,E⟩:=q
 refine ⟨_,rfl,⟨(E.1.box 3 rfl),(E.1.box 8 rfl),trivial⟩,(fun hHeld=> ?_)⟩
 refine zw (a':= ?_) zq2 ?_
 refine zS rfl (zC rfl Tryz.func27 zq13 rfl #[.agg d3.toArray,.agg d5.toArray] zq22 rfl zq14 ?_)
 with_reducible refine (eqStore_c k d0 _ (E.1.mk_ 4 rfl) (E.1.mk_ 0 rfl) HEX0.1).mono ?_
 rintro e w29_ ⟨rfl,hb⟩
 replace E:=zz (E.1.call hb);clear hb
 refine ⟨_,rfl,⟨(E.1.box 3 rfl),(E.1.box 8 rfl),trivial⟩,(fun hHeld=> ?_)⟩
 refine zw (a':= ?_) zq2 ?_
 (refine zM (v:= ?_) (a':= ?_) rfl rfl (Or.inl ⟨zq22,zq12⟩) zq2 ?_)
 refine zX ?_
 clear hHeld
 go_wp2_with (first|((with_reducible refine zd (N:=46) rfl ?_);refine zf rfl 67 _ rfl w6.heap.size 0 [] d3 [] _ rfl (E.1.box 3 rfl) zq6 (rfl) Tryz.underlying67 rfl (zq24 L1.1) ?_))
 ((with_reducible refine (markStore_c k d0 1 d1 mk0 _ w _ E.1.below (E.1.mbound 4 rfl) (E.1.made 4 rfl) HMK0.1).mono ?_);rintro e w30_ ⟨rfl,M,hB,hK⟩)
 replace E:=zz (E.1.marked 4 rfl M hB hK zq116);clear M hB hK
 go_wp2_with (first|((with_reducible refine zd (N:=52) rfl ?_);refine ev_loadpart_w zq22 67 _ rfl w7.heap.size 0 [] d4 [] _ rfl (E.1.box 1 rfl) zq6 (rfl) Tryz.underlying67 rfl (zq24 L2.1) ?_)|((with_reducible refine zd (N:=53) rfl ?_);refine ev_loadpart_w zq22 67 _ rfl w5.heap.size 0 [] d2 [] _ rfl (E.1.box 5 rfl) zq6 (rfl) Tryz.underlying67 rfl (zq24 L0.1) ?_))
 ((with_reducible refine (eqStore_c k z0 _ (E.1.mk_ 2 rfl) (E.1.mk_ 6 rfl) HEQ0.1).mono ?_);rintro e w31_ ⟨rfl,hb⟩)
 replace E:=zz (E.1.call hb);clear hb
 go_wp2_with (first|((with_reducible refine zd (N:=62) rfl ?_);refine zf rfl 67 _ rfl w7.heap.size 0 [] d4 [] _ rfl (E.1.box 1 rfl) zq6 (rfl) Tryz.underlying67 rfl (zq24 L2.1) ?_))
 ((with_reducible refine (markStore_c k z0 1 z2 mg0 _ w _ E.1.below (E.1.mbound 2 rfl) (E.1.made 2 rfl) HMG0.1).mono ?_);rintro e w32_ ⟨rfl,M,hB,hK⟩)
 replace E:=zz (E.1.marked 2 rfl M hB hK zq116);clear M hB hK
 go_wp2_with (first|((with_reducible refine zd (N:=65) rfl ?_);refine zf rfl 67 _ rfl w7.heap.size 0 [] d4 [] _ rfl (E.1.box 1 rfl) zq6 (rfl) Tryz.underlying67 rfl (zq24 L2.1) ?_))
 ((with_reducible refine (heldStore_c k z2 1 mg0 _ (E.1.mk_ 2 rfl) HHD0.1).mono ?_);rintro e w33_ ⟨rfl,hb⟩)
 replace E:=zz (E.1.call hb);clear hb
 go_wp2_with (first|((with_reducible refine zd (N:=74) rfl ?_);refine zf rfl 63 _ rfl w.heap.size 0 [] cs0 [] _ rfl (E.1.box 8 rfl) zq6 (rfl) Tryz.underlying63 rfl (zq24 LA0.1) ?_))
 ((with_reducible refine (toStore_c k a0 d0 _ (E.1.K KA0.1) HT0.1).mono ?_);rintro e w34_ ⟨d35_,rfl,M5,hb⟩)
 have q:=E.1.made4 O.1 20 rfl M5 hb;clear O E M5 hb;obtain ⟨n36_,m37_,Ld35_,Od35_,O,E⟩:=q
 go_wp2_with fail
 ((with_reducible refine (implEndW_c k d0 z0 z1 _ (E.1.mk_ 0 rfl) HIM.1).mono ?_);rintro e w8 ⟨d6,rfl,M6,hb⟩)
 have q:=E.1.made4 O.1 20 rfl M6 hb;clear O E M6 hb;obtain ⟨n40_,m41_,L3,Q3,O,E⟩:=q
 go_wp2_with (first|((with_reducible refine zm (t:=67) (p:=12) rfl ?_);replace O:=zz (And.intro E.1.le O.1);replace E:=zz (E.1.alloc Z67 67 (g:=w8.heap.size) rfl);refine zn rfl 67 _ _ rfl rfl w8.heap.size 0 d6 [] Z67 [] rfl rfl (E.1.box 0 rfl) zq6 (rfl) (zq40 L3.1) (zq24 L3.1) Q3.1 ?_;intro W42_ hp hn;replace E:=E.1.put2 0 hp hn zq7;clear hp hn)|((with_reducible refine zd (N:=79) rfl ?_);refine zf rfl 67 _ rfl w8.heap.size 0 [] d6 [] _ rfl (E.1.box 0 rfl) zq6 (rfl) Tryz.underlying67 rfl (zq24 L3.1) ?_)|((with_reducible refine zd (N:=80) rfl ?_);refine zf rfl 67 _ rfl w5.heap.size 0 [] d2 [] _ rfl (E.1.box 8 rfl) zq6 (rfl) Tryz.underlying67 rfl (zq24 L0.1) ?_))
 ((with_reducible refine (eqStore_c k z0 _ (E.1.mk_ 1 rfl) (E.1.mk_ 9 rfl) HEQ0.1).mono ?_);rintro e w43_ ⟨rfl,hb⟩)
 replace E:=zz (E.1.call hb);clear hb
 go_wp2_with (first|((with_reducible refine zd (N:=88) rfl ?_);refine zf rfl 67 _ rfl w7.heap.size 0 [] d4 [] _ rfl (E.1.box 4 rfl) zq6 (rfl) Tryz.underlying67 rfl (zq24 L2.1) ?_))
 ((with_reducible refine (heldStore_c k z2 1 mg0 _ (E.1.mk_ 5 rfl) HHD0.1).mono ?_);rintro e w44_ ⟨rfl,hb⟩)
 replace E:=zz (E.1.call hb);clear hb
 go_wp2_with fail
 go_ret
 exact ⟨rfl,E.1.below⟩
end Go.Proofs.YtonhdiemjgdcnaaGreat.PFnExactGivePage
namespace Go.Proofs.YtonhdiemjgdcnaaGreat.PFnExactGivePage
open Go.RowKit Go.Proofs.YtonhdiemjgdcnaaGreatW.PrintWords Go.Proofs.YtonhdiemjgdcnaaGreatW.PrintLast Go.Proofs.YtonhdiemjgdcnaaGreatW.PrintMore
attribute [local go_sem] zma zla zwa zxa zba zca zoa zna
theorem inS_f (a lo hi:Int):spec_l01In.f a lo hi=some (inB a lo hi):=by
 unfold spec_l01In.f inB
 by_cases h:a≥lo
 ·rw [if_pos h,decide_eq_true (show lo≤a from h)];rfl
 ·rw [if_neg h,decide_eq_false (show ¬lo≤a from h)];rfl
theorem le200 (n:Nat):decide ((n:Int)≤200)= !decide ((n:Int)>200):=by
 by_cases h:(n:Int)>200
 ·rw [decide_eq_true h,decide_eq_false zq9];rfl
 ·rw [decide_eq_false h,decide_eq_true zq9];rfl
theorem ds1 (p:List ByteArray) (q:List S110) (hp:p.length≤2000000) (hq:q.length≤2000000):∀n i:Nat,i+n=q.length→Ev (fun k=>spec_DiskOk.l1 k (i:Int) p q) (!(q.drop i).any (badP p.length)&&(inB (p.length:Int) 4 40&& !decide ((q.length:Int)>200))):=by
 have w1:wrap64 ((p.length:Int)-1)=(p.length:Int)-1:=zJ zq9 zq9
 intro n
 induction n with
 |zero=>
  intro i hi
  rw [List.drop_eq_nil_of_le (show q.length≤i by omega)]
  refine Ev.step (f:=fun _=>some (!([]:List S110).any (badP p.length)&&(inB (p.length:Int) 4 40&& !decide ((q.length:Int)>200)))) (fun k=> ?_) (Ev.now _)
  rw [spec_DiskOk.l1,if_neg zq9,inS_f,Option.bind_some,le200]
  cases inB (p.length:Int) 4 40<;>rfl
 |succ n ih=>
  intro i hi
  have hlt:i<q.length:=zq9
  have w2:wrap64 ((i:Int)+1)=((i+1:Nat):Int):=by rw [zJ zq9 zq9];omega
  rw [List.drop_eq_getElem_cons hlt,List.any_cons]
  by_cases hb:inB q[i].f0 0 ((p.length:Int)-1)=true
  ·by_cases hs:(q[i].f1.size:Int)>240
   ·have e:badP p.length q[i]=true:=by unfold badP bigT;rw [decide_eq_true hs,Bool.or_true]
    rw [e]
    refine Ev.step (f:=fun _=>some false) (fun k=> ?_) (Ev.now _)
    rw [spec_DiskOk.l1,if_pos zq9,if_pos zq9,rd135 _ _ hlt,w1,inS_f,Option.bind_some,if_pos hb,if_pos hs]
   ·have e:badP p.length q[i]=false:=by unfold badP bigT;rw [decide_eq_false hs,hb];rfl
    rw [e,Bool.false_or]
    refine Ev.step (f:=fun k=>spec_DiskOk.l1 k ((i+1:Nat):Int) p q) (fun k=> ?_) (ih (i+1) zq9)
    rw [spec_DiskOk.l1,if_pos zq9,if_pos zq9,rd135 _ _ hlt,w1,inS_f,Option.bind_some,if_pos hb,if_neg hs,w2]
  ·have hb2:inB q[i].f0 0 ((p.length:Int)-1)=false:=by cases h:inB q[i].f0 0 ((p.length:Int)-1)<;>simp_all
   have e:badP p.length q[i]=true:=by unfold badP;rw [hb2];rfl
   rw [e]
   refine Ev.step (f:=fun _=>some false) (fun k=> ?_) (Ev.now _)
   rw [spec_DiskOk.l1,if_pos zq9,if_pos zq9,rd135 _ _ hlt,w1,inS_f,Option.bind_some,if_neg hb]
theorem ds0 (p:List ByteArray) (q:List S110) (hp:p.length≤2000000) (hq:q.length≤2000000):∀n i:Nat,i+n=p.length→Ev (fun k=>spec_DiskOk.l0 k (i:Int) p q) (!(p.drop i).any bigT&&(!q.any (badP p.length)&&(inB (p.length:Int) 4 40&& !decide ((q.length:Int)>200)))):=by
 intro n
 induction n with
 |zero=>
  intro i hi
  rw [List.drop_eq_nil_of_le (show p.length≤i by omega)]
  refine Ev.step (f:=fun k=>spec_DiskOk.l1 k ((0:Nat):Int) p q) (fun k=> ?_) ?_
  ·rw [spec_DiskOk.l0,if_neg zq9]
   rfl
  ·exact ds1 p q hp hq q.length 0 zq9
 |succ n ih=>
  intro i hi
  have hlt:i<p.length:=zq9
  have w2:wrap64 ((i:Int)+1)=((i+1:Nat):Int):=by rw [zJ zq9 zq9];omega
  rw [List.drop_eq_getElem_cons hlt,List.any_cons]
  by_cases hs:(p[i].size:Int)>240
  ·have e:bigT p[i]=true:=by unfold bigT;rw [decide_eq_true hs]
   rw [e]
   refine Ev.step (f:=fun _=>some false) (fun k=> ?_) (Ev.now _)
   rw [spec_DiskOk.l0,if_pos zq9,if_pos zq9,rdOf_nat _ _ _ hlt,if_pos hs]
  ·have e:bigT p[i]=false:=by unfold bigT;rw [decide_eq_false hs]
   rw [e,Bool.false_or]
   refine Ev.step (f:=fun k=>spec_DiskOk.l0 k ((i+1:Nat):Int) p q) (fun k=> ?_) (ih (i+1) zq9)
   rw [spec_DiskOk.l0,if_pos zq9,if_pos zq9,rdOf_nat _ _ _ hlt,if_neg hs,w2]
theorem diskOkS_ev (p:List ByteArray) (q:List S110) (hp:p.length≤2000000) (hq:q.length≤2000000):Ev (fun k=>spec_DiskOk.f k p q) (DOk p q):=by
 have h:=ds0 p q hp hq p.length 0 zq9
 have e:(!(p.drop 0).any bigT&&(!q.any (badP p.length)&&(inB (p.length:Int) 4 40&& !decide ((q.length:Int)>200))))=DOk p q:=by
  rw [List.drop_zero]
  unfold DOk
  generalize p.any bigT=a1
  generalize q.any (badP p.length)=a2
  generalize inB (p.length:Int) 4 40=a3
  generalize decide ((q.length:Int)>200)=a4
  cases a1<;>cases a2<;>cases a3<;>cases a4<;>rfl
 rw [e] at h
 exact h
def wrOk (p:List ByteArray) (q:List S110) (a:Int) (t:ByteArray):Bool:=DOk p q&&inB a 0 ((p.length:Int)-1)&& !bigT t&& !decide ((q.length:Int)≥200)
def wrD (z:(List ByteArray×List S110)) (a:Int) (t:ByteArray):(List ByteArray×List S110):=if wrOk z.1 z.2 a t=true then (z.1,z.2++[(⟨a,t⟩:S110)]) else z
theorem cloneD_id2 (p:List ByteArray) (q:List S110) (hp:p.length≤2000000) (hq:q.length≤2000000):impl_cloneDisk.f p q=some (p,q):=by
 unfold impl_cloneDisk.f slices_Clone_string_string.f impl_Put.f
 rw [if_pos zq9,if_pos zq9]
 rfl
theorem writeI_f (z:(List ByteArray×List S110)) (a:Int) (t:ByteArray) (hp:z.1.length≤2000000) (hq:z.2.length≤2000000):impl_WritePage.f z.1 z.2 a t=some ((wrD z a t).1,(wrD z a t).2,wrOk z.1 z.2 a t):=by
 obtain ⟨p,q⟩:=z
 have w1:wrap64 ((p.length:Int)-1)=(p.length:Int)-1:=zJ (by have:p.length≤2000000:=hp;omega) (by have:p.length≤2000000:=hp;omega)
 have hq':q.length≤2000000:=hq
 unfold impl_WritePage.f impl_DiskOk.f impl_isPage.f impl_in.f wrD wrOk
 rw [cloneD_id2 p q hp hq,Option.bind_some,Option.bind_some,w1]
 have e:∀b:Bool,(if a≥0 then some (decide (a≤(p.length:Int)-1)) else some false)=some (inB a 0 ((p.length:Int)-1)):=fun _=>inS_f a 0 _
 show (if DOk p q=true then _ else _)=_
 cases h1:DOk p q with
 |false=>rfl
 |true=>
  rw [if_pos rfl]
  have e2:(if a≥0 then some (decide (a≤(p.length:Int)-1)) else some false)=some (inB a 0 ((p.length:Int)-1)):=e true
  cases h2:inB a 0 ((p.length:Int)-1) with
  |false=>
   rw [h2] at e2
   simp only [e2,Option.bind_some]
   rfl
  |true=>
   rw [h2] at e2
   simp only [e2,Option.bind_some,if_true]
   by_cases h3:(t.size:Int)>240
   ·have e3:bigT t=true:=z6 h3
    rw [if_pos h3,e3]
    rfl
   ·have e3:bigT t=false:=z7 h3
    rw [if_neg h3,e3]
    by_cases h4:(q.length:Int)≥200
    ·rw [if_pos h4,decide_eq_true h4]
     rfl
    ·rw [if_neg h4,decide_eq_false h4,if_pos zq9]
     rfl
theorem writeS_ev (z:(List ByteArray×List S110)) (a:Int) (t:ByteArray) (hp:z.1.length≤2000000) (hq:z.2.length≤2000000):Ev (fun k=>spec_WritePage.f k z.1 z.2 a t) ((wrD z a t).1,(wrD z a t).2,wrOk z.1 z.2 a t):=by
 obtain ⟨p,q⟩:=z
 have w1:wrap64 ((p.length:Int)-1)=(p.length:Int)-1:=zJ (by have:p.length≤2000000:=hp;omega) (by have:p.length≤2000000:=hp;omega)
 have hq':q.length≤2000000:=hq
 have hp':p.length≤2000000:=hp
 have eC:spec_l03Copy.f p q=some (p,q):=by
  unfold spec_l03Copy.f
  rw [Option.bind_some,if_pos (by rw [List.length_nil];omega),Option.bind_some,if_pos (by rw [List.length_nil];omega)]
  rfl
 have hD:=diskOkS_ev p q hp hq
 unfold wrD wrOk
 cases h1:DOk p q with
 |false=>
  rw [h1] at hD
  refine hD.imp ?_
  intro K hK k hk
  have hk:spec_DiskOk.f k p q=some _:=hK k hk
  show spec_WritePage.f k p q a t=_
  unfold spec_WritePage.f
  rw [eC,Option.bind_some,hk]
  rfl
 |true=>
  rw [h1] at hD
  have hle:(q.length:Int)≤200:=by
   have h2:=h1
   unfold DOk at h2
   simp only [Bool.and_eq_true,Bool.not_eq_true',decide_eq_false_iff_not] at h2
   have:=h2.1.1.2
   omega
  refine hD.imp ?_
  intro K hK k hk
  have hk:spec_DiskOk.f k p q=some _:=hK k hk
  show spec_WritePage.f k p q a t=_
  unfold spec_WritePage.f
  rw [eC,Option.bind_some,hk,Option.bind_some,if_pos rfl,w1,inS_f,Option.bind_some]
  show (if inB a 0 ((p.length:Int)-1)=true then (if (t.size:Int)>240 then some (p,q,false) else (if (q.length:Int)=200 then some (p,q,false) else (if q.length<5864062014805 then some (p,q++[(⟨a,t⟩:S110)],true) else none))) else some (p,q,false))=some ((if (true&&inB a 0 ((p.length:Int)-1)&& !bigT t&& !decide ((q.length:Int)≥200))=true then (p,q++[(⟨a,t⟩:S110)]) else (p,q)).1,(if (true&&inB a 0 ((p.length:Int)-1)&& !bigT t&& !decide ((q.length:Int)≥200))=true then (p,q++[(⟨a,t⟩:S110)]) else (p,q)).2,(true&&inB a 0 ((p.length:Int)-1)&& !bigT t&& !decide ((q.length:Int)≥200)))
  cases h2:inB a 0 ((p.length:Int)-1) with
  |false=>rfl
  |true=>
   rw [if_pos rfl]
   by_cases h3:(t.size:Int)>240
   ·have e3:bigT t=true:=z6 h3
    rw [if_pos h3,e3]
    rfl
   ·have e3:bigT t=false:=z7 h3
    rw [if_neg h3,e3]
    by_cases h4:(q.length:Int)≥200
    ·rw [if_pos (show (q.length:Int)=200 by omega),decide_eq_true h4]
     rfl
    ·rw [if_neg (show ¬(q.length:Int)=200 by omega),decide_eq_false h4,if_pos zq9]
     rfl
end Go.Proofs.YtonhdiemjgdcnaaGreat.PFnExactGivePage
namespace Go.Proofs.YtonhdiemjgdcnaaGreat.Opened
open Go.RowKit Go.Deep Go.WideShapes Go.Proofs.YtonhdiemjgdcnaaGreatW.PrintWords
def zXb {α:Type} (P:Program) (t:TypeId) (d:Kd α) (ok:α→Prop):Prop:=
 ∀(H:Type) (enc:TypeId×Value→H) (w:World) (base:Nat) (spare:Nat→Bool) (held:Bool) (fuel:Nat) (cs:List Value) (x:DataW H×List MemPlace),
  DataW.trod enc P w base spare held fuel t cs=some x→∃y:α,d.K w y cs∧ok y
variable {P:Program}
theorem zOa {t:TypeId} {k:IntKind} (hu:P.underlying t=some (.int k)):zXb P t (Kd.int k) (fun _=>True):=by
 intro H enc w base spare held fuel cs x h
 obtain ⟨n,rfl,_,_⟩:=DataW.trod_int hu h
 exact ⟨n,rfl,trivial⟩
theorem opens_string {t:TypeId} (hu:P.underlying t=some .string):zXb P t Kd.string (fun s=>s.size≤9223372036854775807):=by
 intro H enc w base spare held fuel cs x h
 obtain ⟨n,rfl,_,hs⟩:=DataW.trod_string hu h
 exact ⟨n,rfl,by unfold maxLen at hs;omega⟩
theorem list_of {α:Type} (n:Nat) (Q:Nat→α→Prop) (h:∀i,i<n→∃y,Q i y):∃ys:List α,ys.length=n∧∀j p,ys[j]?=some p→Q j p:=by
 induction n with
 |zero=>exact ⟨[],rfl,fun j p h=>by simp at h⟩
 |succ n ih=>
  obtain ⟨ys,hl,hy⟩:=ih (fun i hi=>h i zq9)
  obtain ⟨y,hq⟩:=h n zq9
  refine ⟨ys++[y],by simp [hl],fun j p hj=> ?_⟩
  rcases Nat.lt_or_ge j n with hlt|hge
  ·rw [List.getElem?_append_left zq9] at hj
   exact hy j p hj
  ·have hj':j=n:=by
    have:=(List.getElem?_eq_some_iff.1 hj).1
    rw [List.length_append,List.length_singleton] at this
    omega
   subst hj'
   have:y=p:=by rw [List.getElem?_append_right zq9,hl,Nat.sub_self] at hj;simpa using hj
   subst this
   exact hq
theorem zcb {t e:TypeId} {α:Type} {d:Kd α} {ok:α→Prop} (hu:P.underlying t=some (.slice e)) (he:zXb P e d ok) (hc:P.cellsOf e=d.sz) (n:Nat):zXb P t (Kd.slice n d) (fun ys=>∀y∈ys,ok y):=by
 intro H enc w base spare held fuel cs x h
 rcases open_slice hu h with ⟨rfl,_⟩|⟨a,len,cap,m,n',D,Pl,rfl,_,hl,hm,hmm,_,hel⟩
 ·exact ⟨[],⟨none,0,rfl,z3a _,rfl,by simp,fun h=>by simp at h⟩,fun y hy=>by cases hy⟩
 ·have hlm:len≤m:=by
   rw [hmm]
   split<;>omega
  obtain ⟨ys,hy,hq⟩:=list_of len (fun i y=>ok y∧∃cs',w.cells? base (a.add (i*P.cellsOf e)) (P.cellsOf e)=some cs'∧d.K w y cs') (fun i hi=>by
   obtain ⟨cs',h1,h2⟩:=hel i zq9
   obtain ⟨y,hy,hok⟩:=he _ enc w base spare held n' cs' _ h2
   exact ⟨y,hok,cs',h1,hy⟩)
  subst hy
  refine ⟨ys,⟨some a,cap,rfl,hl,rfl,by unfold maxLen at hm;omega,fun _=>⟨a,rfl,fun j p hj=> ?_⟩⟩,fun y hy=> ?_⟩
  ·obtain ⟨_,cs',h1,h2⟩:=hq j p hj
   obtain ⟨_,h3,h4⟩:=World.cells?_some h1
   refine ⟨cs',h3.trans hc,h2,fun i u hi=> ?_⟩
   have hi':i<P.cellsOf e:=by
    have:=(List.getElem?_eq_some_iff.1 hi).1
    omega
   have:=h4 i hi'
   rw [Addr.add_add,hc] at this
   rw [this]
   exact hi
  ·obtain ⟨j,hj,rfl⟩:=List.getElem_of_mem hy
   exact (hq j _ (List.getElem?_eq_getElem hj)).1
def Parts {α:Type} (P:Program) (fs:List Field) (o:Nat) (d:Kd α) (ok:α→Prop):Prop:=
 ∀(H:Type) (enc:TypeId×Value→H) (w:World) (base:Nat) (spare:Nat→Bool) (held:Bool) (fuel:Nat) (cs:List Value),cs.length=o+d.sz→
  (∀f∈fs,∃x:DataW H×List MemPlace,DataW.trod enc P w base spare held fuel f.type ((cs.drop f.offset).take (P.cellsOf f.type))=some x)→∃y:α,d.K w y (cs.drop o)∧ok y
theorem zSa {α:Type} {d:Kd α} {ok:α→Prop} {f:Field} {o:Nat} (hf:zXb P f.type d ok) (ho:f.offset=o) (hc:P.cellsOf f.type=d.sz):Parts P [f] o d ok:=by
 intro H enc w base spare held fuel cs hl h
 obtain ⟨x,hx⟩:=h f zq38
 rw [ho,hc,List.take_of_length_le (by rw [List.length_drop];omega)] at hx
 exact hf _ enc w base spare held fuel _ x hx
theorem zda {α β:Type} {d:Kd α} {ds:Kd β} {ok:α→Prop} {oks:β→Prop} {f:Field} {fs:List Field} {o o':Nat} (hf:zXb P f.type d ok) (ho:f.offset=o) (hc:P.cellsOf f.type=d.sz) (hs:Parts P fs o' ds oks) (ho':o'=o+d.sz):Parts P (f::fs) o (Kd.pair d ds) (fun p=>ok p.1∧oks p.2):=by
 intro H enc w base spare held fuel cs hl h
 subst ho'
 have hl':cs.length=o+(d.sz+ds.sz):=hl
 obtain ⟨x,hx⟩:=h f zq38
 rw [ho,hc] at hx
 obtain ⟨y,hy,oy⟩:=hf _ enc w base spare held fuel _ x hx
 obtain ⟨z,hz,oz⟩:=hs _ enc w base spare held fuel cs zq9 (fun g hg=>h g (by simp [hg]))
 refine ⟨(y,z),⟨(cs.drop o).take d.sz,cs.drop (o+d.sz),?_,hy,hz⟩,oy,oz⟩
 rw [←List.drop_drop]
 exact (List.take_append_drop _ _).symm
theorem zDa {t:TypeId} {fs:Array Field} {α β:Type} {d:Kd α} {ok:α→Prop} (hu:P.underlying t=some (.struct fs)) (hp:Parts P fs.toList 0 d ok) (hc:P.cellsOf t=d.sz) (f:β→α) (g:α→β) (hg:∀y,f (g y)=y):zXb P t (Kd.iso d f) (fun y=>ok (f y)):=by
 intro H enc w base spare held fuel cs x h
 obtain ⟨xs,n,_,_,hl,hlen,hi⟩:=DataW.trod_struct hu h
 obtain ⟨y,hy,oy⟩:=hp _ enc w base spare held n cs zq9 (fun fl hfl=>by
  obtain ⟨i,hlt,he⟩:=List.getElem_of_mem hfl
  have hlt':i<fs.size:=by simpa using hlt
  have:=hi i fl (by rw [Array.getElem?_eq_getElem hlt'];simpa using he)
  rw [List.getElem?_eq_getElem zq9] at this
  exact ⟨_,this⟩)
 refine ⟨g y,?_,?_⟩
 ·show d.K w (f (g y)) cs
  rw [hg]
  simpa using hy
 ·show ok (f (g y))
  rw [hg]
  exact oy
theorem arg_struct {t:TypeId} {fs:Array Field} {α:Type} {d:Kd α} {ok:α→Prop} (hu:P.underlying t=some (.struct fs)) (ho:zXb P t d ok) {H:Type} {enc:TypeId×Value→H} {w:World} {base b0:Nat} {spare:Nat→Bool} {held:Bool} {r:Reach} {v:Value} {x:DataW H} {p:List MemPlace}
  (hv:Value.okWide P w r b0 t v) (h:DataW.Trod enc P w base spare held t v x p):∃(y:α) (cs:List Value),v= .agg cs.toArray∧d.K w y cs∧ok y:=by
 obtain ⟨cs,rfl,_⟩:=okWide_struct hu hv
 obtain ⟨fuel,hf⟩:=h
 obtain ⟨y,hy,oy⟩:=ho _ enc w base spare held fuel _ _ hf
 exact ⟨y,cs.toList,by simp,by simpa [Value.cells] using hy,oy⟩
end Go.Proofs.YtonhdiemjgdcnaaGreat.Opened
namespace Go.Proofs.YtonhdiemjgdcnaaGreat.PFnExactGivePage
open Go.ChangeShapes Go.WideShapes Go.ChangeAt Go.RowKit
open Go.ChangeMaps (open_string shut_string)
open Go.Proofs.YtonhdiemjgdcnaaGreat.Opened Go.Proofs.YtonhdiemjgdcnaaGreatW.PrintWords
def dDisk:Kd (List ByteArray×List S156):=Kd.pair (Kd.slice 9 Kd.string) (Kd.slice 156 k156)
def okDisk (p:List ByteArray×List S156):Prop:=(∀s∈p.1,s.size≤9223372036854775807)∧∀s∈p.2,s.f1.size≤9223372036854775807
theorem opens156:zXb Tryz.prog 156 k156 (fun s=>s.f1.size≤9223372036854775807):=by
 have h:=zDa (P:=Tryz.prog) Tryz.underlying156 (zda (zOa Tryz.underlying3) rfl zq13 (zSa (opens_string Tryz.underlying9) rfl zq13) rfl) zq13 (fun x:S156=>(x.f0,x.f1)) (fun p=>⟨p.1,p.2⟩) (fun _=>rfl)
 intro H enc w base spare held fuel cs x hx
 obtain ⟨y,h1,h2⟩:=h _ enc w base spare held fuel cs x hx
 exact ⟨y,h1,h2.2⟩
theorem opens28:zXb Tryz.prog 28 (Kd.iso dDisk id) okDisk:=
 zDa (P:=Tryz.prog) Tryz.underlying28 (zda (zcb Tryz.underlying25 (opens_string Tryz.underlying9) zq13 9) rfl zq13 (zSa (zcb Tryz.underlying26 opens156 zq13 156) rfl zq13) rfl) zq13 id id (fun _=>rfl)
theorem opens_bool {P:Program} {t:TypeId} (hu:P.underlying t=some .bool):zXb P t Kd.bool (fun _=>True):=by
 intro H enc w base spare held fuel cs x h
 obtain ⟨n,rfl,_⟩:=DataW.trod_bool hu h
 exact ⟨n,rfl,trivial⟩
theorem opens140:zXb Tryz.prog 140 k140 (fun s=>True∧∀y∈s.f1,True):=
 zDa (P:=Tryz.prog) Tryz.underlying140 (zda (zOa Tryz.underlying3) rfl zq13 (zSa (zcb Tryz.underlying29 (zOa Tryz.underlying3) zq13 3) rfl zq13) rfl) zq13 (fun x:S140=>(x.f0,x.f1)) (fun p=>⟨p.1,p.2⟩) (fun _=>rfl)
theorem opens24:zXb Tryz.prog 24 k24 (fun x=>True∧True∧True∧∀s∈x.f3,True∧∀y∈s.f1,True):=
 zDa (P:=Tryz.prog) Tryz.underlying24 (zda (zOa Tryz.underlying3) rfl zq13 (zda (zOa Tryz.underlying3) rfl zq13 (zda (zOa Tryz.underlying3) rfl zq13 (zSa (zcb Tryz.underlying22 opens140 zq13 140) rfl zq13) rfl) rfl) rfl) zq13 (fun x:S24=>(x.f0,x.f1,x.f2,x.f3)) (fun p=>⟨p.1,p.2.1,p.2.2.1,p.2.2.2⟩) (fun _=>rfl)
theorem opens132:∃ok,zXb Tryz.prog 132 k132 ok:=⟨_,
 zDa (P:=Tryz.prog) Tryz.underlying132 (zda (zOa Tryz.underlying3) rfl zq13 (zSa opens24 rfl zq13) rfl) zq13 (fun x:S132=>(x.f0,x.f1)) (fun p=>⟨p.1,p.2⟩) (fun _=>rfl)⟩
def dWork:Kd ((List ByteArray×List S156)×Int×List Int×List Int×List Int):=Kd.pair (Kd.iso dDisk id) (Kd.pair (Kd.int .i64) (Kd.pair (Kd.slice 3 (Kd.int .i64)) (Kd.pair (Kd.slice 3 (Kd.int .i64)) (Kd.slice 3 (Kd.int .i64)))))
theorem opensI:zXb Tryz.prog 29 (Kd.slice 3 (Kd.int .i64)) (fun ys=>∀y∈ys,True):=zcb Tryz.underlying29 (zOa Tryz.underlying3) zq13 3
def unW (p:(List ByteArray×List S156)×Int×List Int×List Int×List Int):(List ByteArray×List S156×Int×List Int×List Int×List Int):=(p.1.1,p.1.2,p.2)
def reW (p:(List ByteArray×List S156×Int×List Int×List Int×List Int)):(List ByteArray×List S156)×Int×List Int×List Int×List Int:=((p.1,p.2.1),p.2.2)
theorem opens31:∃ok,zXb Tryz.prog 31 (Kd.iso dWork reW) ok∧∀x,ok x→okDisk (x.1,x.2.1):=⟨_,
 zDa (P:=Tryz.prog) Tryz.underlying31 (zda opens28 rfl zq13 (zda (zOa Tryz.underlying3) rfl zq13 (zda opensI rfl zq13 (zda opensI rfl zq13 (zSa opensI rfl zq13) rfl) rfl) rfl) rfl) zq13 reW unW (fun _=>rfl),fun x h=>h.1⟩
def dTxn:Kd (S24×(List ByteArray×List S156×Int×List Int×List Int×List Int)×Int):=Kd.pair k24 (Kd.pair (Kd.iso dWork reW) (Kd.int .i64))
def dStore:Kd ((List ByteArray×List S156)×S24×List S132×(S24×(List ByteArray×List S156×Int×List Int×List Int×List Int)×Int)×Bool×Bool):=Kd.pair (Kd.iso dDisk id) (Kd.pair k24 (Kd.pair (Kd.slice 132 k132) (Kd.pair (Kd.iso dTxn id) (Kd.pair Kd.bool Kd.bool))))
theorem C183_len {w:World} {A:Option Addr} {xs:List S140} (h:Kd.C k140 w A xs.length xs):INm xs:=by
 refine ⟨fun s hs=> ?_,h.2.1⟩
 obtain ⟨j,hj,rfl⟩:=List.getElem_of_mem hs
 obtain ⟨_,_,_,_,_,_,_,hC⟩:=at_T140 h (j:Int) zq9 zq9
 rw [rd_T140_nat _ _ hj] at hC
 exact hC.2.1
theorem K69_len {w:World} {x:S24} {cs:List Value} (h:k24.K w x cs):INm x.f3:=by
 obtain ⟨A,c,rfl,m,r⟩:=k24_open h
 exact C183_len r
theorem C154_len {w:World} {A:Option Addr} {xs:List S132} (h:Kd.C k132 w A xs.length xs):∀s∈xs,INm s.f1.f3:=by
 intro s hs
 obtain ⟨j,hj,rfl⟩:=List.getElem_of_mem hs
 obtain ⟨_,_,_,_,_,_,_,_,_,_,hC⟩:=at_T132 h (j:Int) zq9 zq9
 rw [rd_T132_nat _ _ hj] at hC
 exact C183_len hC
theorem KD_len {w:World} {x:List ByteArray×List S156} {cs:List Value} (h:kDiskL.K w x cs) (ho:okDisk x):INd x.1 x.2:=by
 obtain ⟨p,q⟩:=x
 obtain ⟨A0,c0,A1,c1,rfl,m0,r0,m1,r1⟩:=kDiskL_open h
 exact ⟨ho.1,r0.2.1,ho.2,r1.2.1⟩
theorem KW_len {w:World} {x:(List ByteArray×List S156×Int×List Int×List Int×List Int)} {cs:List Value} (h:kWorkL.K w x cs) (ho:okDisk (x.1,x.2.1)):INd x.1 x.2.1∧INi x.2.2.2.1∧INi x.2.2.2.2.1∧INi x.2.2.2.2.2:=by
 obtain ⟨l0,l1,l2,l3,l4,l5⟩:=x
 obtain ⟨A0,c0,A1,c1,A3,c3,A4,c4,A5,c5,rfl,m0,r0,m1,r1,m3,r3,m4,r4,m5,r5⟩:=kWorkL_open h
 exact ⟨⟨ho.1,r0.2.1,ho.2,r1.2.1⟩,r3.2.1,r4.2.1,r5.2.1⟩
theorem Kw_of {w:World} {x:(List ByteArray×List S156×Int×List Int×List Int×List Int)} {cs:List Value} (h:(Kd.iso dWork reW).K w x cs):kWorkL.K w x cs:=by
 obtain ⟨l0,l1,l2,l3,l4,l5⟩:=x
 obtain ⟨_,_,rfl,⟨_,_,rfl,⟨A0,c0,rfl,m0,r0⟩,⟨A1,c1,rfl,m1,r1⟩⟩,⟨_,_,rfl,rfl,⟨_,_,rfl,⟨A3,c3,rfl,m3,r3⟩,⟨_,_,rfl,⟨A4,c4,rfl,m4,r4⟩,⟨A5,c5,rfl,m5,r5⟩⟩⟩⟩⟩:=h
 exact kWorkL_mk m0 r0 m1 r1 m3 r3 m4 r4 m5 r5
theorem Kt_of {w:World} {x:(S24×(List ByteArray×List S156×Int×List Int×List Int×List Int)×Int)} {cs:List Value} (h:dTxn.K w x cs):kTxnL.K w x cs:=by
 obtain ⟨c0,c1,rfl,h0,c2,c3,rfl,h1,h2⟩:=h
 exact ⟨c0,_,rfl,h0,c2,c3,rfl,Kw_of h1,h2⟩
def INt (x:(S24×(List ByteArray×List S156×Int×List Int×List Int×List Int)×Int)):Prop:=INm x.1.f3∧INd x.2.1.1 x.2.1.2.1∧INi x.2.1.2.2.2.1∧INi x.2.1.2.2.2.2.1∧INi x.2.1.2.2.2.2.2
theorem KT_len {w:World} {x:(S24×(List ByteArray×List S156×Int×List Int×List Int×List Int)×Int)} {cs:List Value} (h:kTxnL.K w x cs) (ho:okDisk (x.2.1.1,x.2.1.2.1)):INt x:=by
 obtain ⟨c0,c1,rfl,h0,c2,c3,rfl,h1,h2⟩:=h
 exact ⟨K69_len h0,KW_len h1 ho⟩
theorem opens_intr {P:Program} {t:TypeId} (hu:P.underlying t=some (.int .i64)):zXb P t (Kd.int .i64) (fun x=>x≤9223372036854775807):=by
 intro H enc w base spare held fuel cs x h
 obtain ⟨n,rfl,_,hw⟩:=DataW.trod_int hu h
 refine ⟨n,rfl,?_⟩
 have h2:(decide (IntKind.i64.min≤n)&&decide (n≤IntKind.i64.max))=true:=hw
 rw [Bool.and_eq_true] at h2
 have h3:n≤IntKind.i64.max:=z8 h2.2
 exact Int.le_trans h3 zq31
theorem opens24r:zXb Tryz.prog 24 k24 (fun x=>x.f0≤9223372036854775807∧True∧True∧∀s∈x.f3,True∧∀y∈s.f1,True):=
 zDa (P:=Tryz.prog) Tryz.underlying24 (zda (opens_intr Tryz.underlying3) rfl zq13 (zda (zOa Tryz.underlying3) rfl zq13 (zda (zOa Tryz.underlying3) rfl zq13 (zSa (zcb Tryz.underlying22 opens140 zq13 140) rfl zq13) rfl) rfl) rfl) zq13 (fun x:S24=>(x.f0,x.f1,x.f2,x.f3)) (fun p=>⟨p.1,p.2.1,p.2.2.1,p.2.2.2⟩) (fun _=>rfl)
theorem opens33r:∃ok,zXb Tryz.prog 33 (Kd.iso dTxn id) ok∧∀x,ok x→x.1.f0≤9223372036854775807∧okDisk (x.2.1.1,x.2.1.2.1):=by
 obtain ⟨ok,h,ho⟩:=opens31
 exact ⟨_,zDa (P:=Tryz.prog) Tryz.underlying33 (zda opens24r rfl zq13 (zda h rfl zq13 (zSa (zOa Tryz.underlying3) rfl zq13) rfl) rfl) zq13 id id (fun _=>rfl),fun x h=>⟨h.1.1,ho _ h.2.1⟩⟩
end Go.Proofs.YtonhdiemjgdcnaaGreat.PFnExactGivePage
namespace Go.Proofs.YtonhdiemjgdcnaaGreat.PFnExactGivePage
open Go.RowKit Go.Proofs.YtonhdiemjgdcnaaGreatW.PrintWords Go.Proofs.YtonhdiemjgdcnaaGreatW.PrintLast Go.Proofs.YtonhdiemjgdcnaaGreatW.PrintMore
attribute [local go_sem] zma zla zwa zxa zba zca zoa zna
theorem nm_ev2 (d:(S40×(List ByteArray×List S110×Int×List Int×List Int×List Int)×Int)) (h:OKt d):∃z b,EvP (fun k=>SpecNM k d z b)∧EvP (fun k=>ImplNM k d z b)∧OKn z.f3∧(b=true→MOk z):=by
 have h0:=h.1
 have hx:zua d.1:=⟨z5a h.2.1.1 zq31,fun f hf=>z5a (h.2.1.2 f hf) zq31⟩
 have hl:d.2.1.2.2.2.1.length≤2000000∧d.2.1.2.2.2.2.1.length≤2000000∧d.2.1.2.2.2.2.2.length≤2000000:=⟨z5a h.2.2.2.1 zq31,z5a h.2.2.2.2.1 zq31,z5a h.2.2.2.2.2 zq31⟩
 by_cases hc:d.1.f0<100001
 ·obtain ⟨t,b,hm,hb⟩:=mt_ex_ vtN sealN (nmM (wrap64 (d.1.f0+1)) d.2.2 d.2.1.2.2.1 d.1 d.2.1.2.2.2.1 d.2.1.2.2.2.2.1 d.2.1.2.2.2.2.2)
  refine ⟨_,b,txF.imp (fun k T=>⟨vtN,sealN,_,t,T,hx,hl,.inl ⟨hc,rfl⟩,hm,rfl⟩),txF.imp (fun k T=>⟨vtN,sealN,t,T,hx,hl,hm,rfl⟩),?_⟩
  cases b with
  |false=>exact ⟨⟨z0b _,fun s hs=>by cases hs⟩,fun h=>by cases h⟩
  |true=>exact ⟨(hb rfl).okn,fun _=>hb rfl⟩
 ·have n1:¬MOk (nmM d.1.f0 d.2.2 d.2.1.2.2.1 d.1 d.2.1.2.2.2.1 d.2.1.2.2.2.2.1 d.2.1.2.2.2.2.2):=fun g=>by
   have g0:d.1.f0≤100000:=g.f0.2
   omega
  have n2:¬MOk (nmM (wrap64 (d.1.f0+1)) d.2.2 d.2.1.2.2.1 d.1 d.2.1.2.2.2.1 d.2.1.2.2.2.2.1 d.2.1.2.2.2.2.2):=fun g=>by
   have g0:0≤wrap64 (d.1.f0+1)∧wrap64 (d.1.f0+1)≤100000:=g.f0
   unfold wrap64 at g0
   omega
  exact ⟨⟨0,0,0,[]⟩,false,txF.imp (fun k T=>⟨vtN,sealN,_,_,T,hx,hl,.inr ⟨hc,rfl⟩,.inl ⟨n1,rfl,rfl⟩,rfl⟩),txF.imp (fun k T=>⟨vtN,sealN,_,T,hx,hl,.inl ⟨n2,rfl,rfl⟩,rfl⟩),⟨z0b _,fun s hs=>by cases hs⟩,fun h=>by cases h⟩
theorem commit_ev (d:(S40×(List ByteArray×List S110×Int×List Int×List Int×List Int)×Int)) (h:OKt d):∃z x b,EvP (fun k=>zCb k d z x b)∧EvP (fun k=>zAb k d z x b)∧(z.1.length≤1048576∧z.2.length≤1048576)∧OKn x.f3:=by
 have hx:zua d.1:=⟨z5a h.2.1.1 zq31,fun f hf=>z5a (h.2.1.2 f hf) zq31⟩
 have hl:d.2.1.1.length≤2000000∧d.2.1.2.1.length≤2000000:=⟨z5a h.2.2.1.1 zq31,z5a h.2.2.1.2 zq31⟩
 have hM:=EvP.of (cloneM_ev d.1 h.2.1)
 have hD:=h.2.2.1
 have hB:=h.2.1
 obtain ⟨e,eS,eI,el⟩:=sync_both d.2.1.1 d.2.1.2.1 hl.1 hl.2
 cases hi:zRb d with
 |true=>
  exact ⟨(e,[]),d.1,true,(EvP.of eS).imp (fun k hk=>⟨hx,hl,.inl ⟨hi,⟨e,[],hk,rfl⟩,rfl,rfl⟩⟩),((EvP.of eI).and hM).imp (fun k hk=>⟨hk.2,hl,.inl ⟨hi,⟨e,[],hk.1,rfl⟩,rfl,rfl⟩⟩),⟨by rw [show e.length=_ from el];exact hD.1,z0b _⟩,hB⟩
 |false=>
  obtain ⟨m,b,nS,nI,hm,hk⟩:=nm_ev2 d h
  cases b with
  |false=>
   exact ⟨(d.2.1.1,d.2.1.2.1),d.1,false,nS.imp (fun k hk=>⟨hx,hl,.inr (.inl ⟨hi,⟨m,hk⟩,rfl,rfl,rfl⟩)⟩),(nI.and hM).imp (fun k hk=>⟨hk.2,hl,.inr (.inl ⟨hi,⟨m,hk.1⟩,rfl,rfl,rfl⟩)⟩),hD,hB⟩
  |true=>
   have hmk:=hk rfl
   obtain ⟨t,ok,ht,-⟩:=mt_ex_ vtN sealN m
   have el2:e.length≤2000000:=by rw [show e.length=_ from el];exact hl.1
   have tl:t.size≤240:=by
    rcases ht with ⟨-,e,-⟩|⟨-,-,e,-⟩|⟨-,g,e,-⟩
    ·rw [e];exact z0b _
    ·rw [e];exact z0b _
    ·rw [e];exact g
   cases hd:DOk e [] with
   |false=>
    have dI:impl_DiskOk.f e []=some false:=by unfold impl_DiskOk.f;rw [hd]
    have dS:=diskOkS_ev e [] el2 (z0b _)
    rw [hd] at dS
    refine ⟨(d.2.1.1,d.2.1.2.1),d.1,false,(nS.and ((EvP.of eS).and ((EvP.of dS).and txF))).imp (fun k hk=>⟨hx,hl,.inr (.inr ⟨hi,m,t,ok,e,[],(e,[]),false,hk.1,⟨vtN,sealN,hk.2.2.2,ht⟩,hk.2.1,hmk.f0,.inl ⟨rfl,⟨el2,z0b _⟩,hk.2.2.1,rfl,rfl,rfl⟩⟩)⟩),(nI.and ((EvP.of eI).and (hM.and txF))).imp (fun k hk=>⟨hk.2.2.1,hl,.inr (.inr ⟨hi,m,t,ok,e,[],(e,[]),false,hk.1,⟨vtN,sealN,hk.2.2.2,ht⟩,hk.2.1,hmk.f0,.inl ⟨rfl,⟨el2,z0b _⟩,dI,rfl,rfl,rfl⟩⟩)⟩),hD,hB⟩
   |true=>
    have h4:4≤(e.length:Int):=by
     have h2:=hd
     unfold DOk inB at h2
     simp only [Bool.and_eq_true,decide_eq_true_eq] at h2
     exact h2.1.1.1.1
    have hr:wrOk e [] (m.f0%2) t=true:=by
     unfold wrOk
     rw [hd,znb zq9,show bigT t=false from decide_eq_false zq9]
     rfl
    have wI:=writeI_f (e,[]) (m.f0%2) t el2 (z0b _)
    have wS:=writeS_ev (e,[]) (m.f0%2) t el2 (z0b _)
    obtain ⟨y,hy⟩:∃y,y=wrD (e,[]) (m.f0%2) t:=⟨_,rfl⟩
    rw [←hy] at wI wS
    replace wI:impl_WritePage.f e [] (m.f0%2) t=some (y.1,y.2,true):=by rw [←hr];exact wI
    replace wS:Ev (fun k=>spec_WritePage.f k e [] (m.f0%2) t) (y.1,y.2,true):=by rw [←hr];exact wS
    have yl:y.1.length=e.length∧y.2.length≤1:=by
     rw [hy]
     unfold wrD
     split<;>exact ⟨rfl,by simp⟩
    obtain ⟨g,gS,gI,gl⟩:=sync_both y.1 y.2 (by rw [yl.1];exact el2) (by have:=yl.2;omega)
    refine ⟨(g,[]),m,true,(nS.and ((EvP.of eS).and ((EvP.of wS).and (txF.and (EvP.of gS))))).imp (fun k hk=>⟨hx,hl,.inr (.inr ⟨hi,m,t,ok,e,[],y,true,hk.1,⟨vtN,sealN,hk.2.2.2.1,ht⟩,hk.2.1,hmk.f0,.inr ⟨rfl,hk.2.2.1,⟨g,[],hk.2.2.2.2,rfl⟩,rfl,rfl⟩⟩)⟩),(nI.and ((EvP.of eI).and (hM.and (txF.and (EvP.of gI))))).imp (fun k hk=>⟨hk.2.2.1,hl,.inr (.inr ⟨hi,m,t,ok,e,[],y,true,hk.1,⟨vtN,sealN,hk.2.2.2.1,ht⟩,hk.2.1,hmk.f0,.inr ⟨rfl,wI,⟨g,[],hk.2.2.2.2,rfl⟩,rfl,rfl⟩⟩)⟩),⟨by rw [show g.length=_ from gl,yl.1,show e.length=_ from el];exact hD.1,z0b _⟩,hm⟩
theorem endw_ev (d:((List ByteArray×List S110)×S40×List S135×(S40×(List ByteArray×List S110×Int×List Int×List Int×List Int)×Int)×Bool×Bool)) (h:OKs d) (h0:d.2.2.2.1.1.f0≤9223372036854775807):∃z c,EvP (fun k=>SpecEndW k d z c)∧EvP (fun k=>ImplEndW k d z c)∧OKs z:=by
 have hI:=cloneI_ev d h
 have hS:=cloneS_ev d h
 by_cases hw:d.2.2.2.2.1=true
 ·obtain ⟨q,m,ok,cS,cI,hq,hm⟩:=commit_ev d.2.2.2.1 ⟨h0,h.2.2.2.1,h.2.2.2.2.1,h.2.2.2.2.2⟩
  by_cases hx:d.2.2.2.2.2=true∨ok=false
  ·obtain ⟨z,c,sS,sI,hz⟩:=stop_ev d h
   exact ⟨z,3,(cS.and sS).imp (fun k hk=>⟨hS k,.inr ⟨hw,q,m,ok,hk.1,.inl ⟨hx,rfl,c,hk.2⟩⟩⟩),(hI.and (cI.and sI)).imp (fun k hk=>⟨hk.1,.inr ⟨hw,q,m,ok,hk.2.1,.inl ⟨hx,rfl,c,hk.2.2⟩⟩⟩),hz⟩
  ·have hb:d.2.2.2.2.2=false:=by cases hh:d.2.2.2.2.2<;>simp_all
   have ho:ok=true:=by cases hh:ok<;>simp_all
   refine ⟨_,0,cS.imp (fun k hk=>⟨hS k,.inr ⟨hw,q,m,ok,hk,.inr ⟨hb,ho,rfl,rfl⟩⟩⟩),(hI.and cI).imp (fun k hk=>⟨hk.1,.inr ⟨hw,q,m,ok,hk.2,.inr ⟨hb,ho,rfl,rfl⟩⟩⟩),?_⟩
   exact ⟨hq,hm,h.2.2.1,⟨z0b _,fun s hs=>by cases hs⟩,⟨z0b _,z0b _⟩,z0b _,z0b _,z0b _⟩
 ·have hw2:d.2.2.2.2.1=false:=by cases hh:d.2.2.2.2.1<;>simp_all
  exact ⟨d,2,EvP.now (⟨hS 0,.inl ⟨hw2,rfl,rfl⟩⟩:SpecEndW 0 d d 2)|>.imp (fun k _=>⟨hS k,.inl ⟨hw2,rfl,rfl⟩⟩),hI.imp (fun k hk=>⟨hk,.inl ⟨hw2,rfl,rfl⟩⟩),h⟩
def INsr (a:((List ByteArray×List S156)×S24×List S132×(S24×(List ByteArray×List S156×Int×List Int×List Int×List Int)×Int)×Bool×Bool)):Prop:=a.2.2.2.1.1.f0≤9223372036854775807∧INs a
theorem ew_law (a:((List ByteArray×List S156)×S24×List S132×(S24×(List ByteArray×List S156×Int×List Int×List Int×List Int)×Int)×Bool×Bool)) (ha:INsr a) {cs:List Value} (w:World) (h:kStoreL.K w a cs):
  Calls Tryz.prog 5 #[.agg cs.toArray] w fun e w'=>e= .returned (.bool true)∧Below w.heap.size w w':=by
 obtain ⟨r,⟨K0,er⟩,hr⟩:=sz_store a ha.2
 rcases hr with hr|⟨hr,ho⟩
 ·exact ew_small0 K0 a r w h (er K0 (z3a _)) hr
 ·obtain ⟨hto,hd⟩:=to_store a ho
  obtain ⟨z,c,hsp,him,hz⟩:=endw_ev (convS a) hd ha.1
  obtain ⟨d',mk,hmk,mk0,_⟩:=mark_store (convS a) hd
  obtain ⟨z',mg,hmg,mg0,hhd⟩:=mark_store z hz
  obtain ⟨K,hK⟩:=(EvP.of ⟨K0,er⟩).and (hto.and (hsp.and (him.and ((eq_store z hz).and ((eq_store (convS a) hd).and (hmk.and (hmg.and hhd)))))))
  obtain ⟨f1,f2,f3,f4,f5,f6,f7,f8,f9⟩:=hK K (z3a _)
  exact ew_great K a r (convS a) d' z z' c mk mg w h f1 f2 f3 f4 f5 f6 f7 f8 f9 hr mk0 mg0
end Go.Proofs.YtonhdiemjgdcnaaGreat.PFnExactGivePage
namespace Go.Proofs.YtonhdiemjgdcnaaGreat.PFnExactGivePage
open Go.ChangeShapes Go.WideShapes Go.ChangeAt Go.RowKit
open Go.ChangeMaps (open_string shut_string)
open Go.Proofs.YtonhdiemjgdcnaaGreat.Opened Go.Proofs.YtonhdiemjgdcnaaGreatW.PrintWords
theorem opens63r:∃ok,zXb Tryz.prog 63 (Kd.iso dStore id) ok∧∀x,ok x→x.2.2.2.1.1.f0≤9223372036854775807∧okDisk x.1∧okDisk (x.2.2.2.1.2.1.1,x.2.2.2.1.2.1.2.1):=by
 obtain ⟨ok,h,ho⟩:=opens33r
 obtain ⟨ok2,h2⟩:=opens132
 exact ⟨_,zDa (P:=Tryz.prog) Tryz.underlying63 (zda opens28 rfl zq13 (zda opens24 rfl zq13 (zda (zcb Tryz.underlying61 h2 zq13 132) rfl zq13 (zda h rfl zq13 (zda (opens_bool Tryz.underlying4) rfl zq13 (zSa (opens_bool Tryz.underlying4) rfl zq13) rfl) rfl) rfl) rfl) rfl) zq13 id id (fun _=>rfl),fun x h=>⟨(ho _ h.2.2.2.1).1,h.1,(ho _ h.2.2.2.1).2⟩⟩
theorem open_storer {H:Type} {enc:TypeId×Value→H} {w:World} {base b0:Nat} {spare:Nat→Bool} {held:Bool} {r:Reach} {v:Value} {x:DataW H} {p:List MemPlace} (hv:Value.okWide Tryz.prog w r b0 63 v) (h:DataW.Trod enc Tryz.prog w base spare held 63 v x p):
  ∃(a:((List ByteArray×List S156)×S24×List S132×(S24×(List ByteArray×List S156×Int×List Int×List Int×List Int)×Int)×Bool×Bool)) (cs:List Value),v= .agg cs.toArray∧kStoreL.K w a cs∧INsr a:=by
 obtain ⟨ok,ho,hk⟩:=opens63r
 obtain ⟨a,cs,rfl,h1,h2⟩:=arg_struct Tryz.underlying63 ho hv h
 have g2:=hk _ h2;have g:=g2.2
 obtain ⟨c0,_,rfl,h0,c1,_,rfl,h1,c2,_,rfl,h2,c3,_,rfl,h3,h4⟩:=h1
 have t:=KT_len (Kt_of h3) g.2
 have hD:kDiskL.K w a.1 c0:=by
  obtain ⟨_,_,rfl,⟨A0,c0,rfl,m0,r0⟩,⟨A1,c1,rfl,m1,r1⟩⟩:=h0
  exact ⟨_,_,rfl,⟨A0,c0,rfl,m0,r0⟩,⟨A1,c1,rfl,m1,r1⟩⟩
 obtain ⟨AR,cR,rfl,mR,rR⟩:=h2
 exact ⟨a,_,rfl,⟨c0,_,rfl,hD,c1,_,rfl,h1,_,_,rfl,⟨AR,cR,rfl,mR,rR⟩,c3,_,rfl,Kt_of h3,h4⟩,g2.1,KD_len hD g.1,K69_len h1,⟨C154_len rR,rR.2.1⟩,t⟩
end Go.Proofs.YtonhdiemjgdcnaaGreat.PFnExactGivePage
namespace Go.Proofs.YtonhdiemjgdcnaaGreat.Head
def w1:List Char:=[104,97,114,110,101,115,115].map Char.ofNat
def w2:List Char:=[101,50,50,49,48,53,100,49,55,48,55,51,99,54,52,48,52,56,54,52,54,99,53,100,99,54,50,50,100,101,54,51,98,48,100,97,48,52,100,101,99,101,101,101,100,51,57,55,54,57,53,98,48,50,102,102,102,56,53,100,53,53,97,102].map Char.ofNat
def w3:List Char:=[99,117,116].map Char.ofNat
def w4:List Char:=[97,116,32,108,111,111,112,46,101,120,97,109,112,108,101,47,103,48,48,50,52,48,47,108,97,119,115,46,70,110,69,120,97,99,116,67,111,109,109,105,116,32,108,111,111,112,46,101,120,97,109,112,108,101,47,103,48,48,50,52,48,47,108,97,119,115,46,70,110,69,120,97,99,116,67,111,109,109,105,116,67,117,116,32,108,111,111,112,46,101,120,97,109,112,108,101,47,103,48,48,50,52,48,47,108,97,119,115,46,70,110,69,120,97,99,116,69,110,100,87,114,105,116,101].map Char.ofNat
def blank:Char:=Char.ofNat 32
theorem cut_at (a r:List Char) (h:a.all (· !=blank)=true):wordsSigns (a++blank::r)=a::wordsSigns r:=by
 induction a with
 |nil=>rfl
 |cons c a ih=>
  simp only [List.all_cons,Bool.and_eq_true,bne_iff_ne] at h
  have e:=ih h.2
  have hc:∀s,wordsSigns (c::s)=match wordsSigns s with|w::ws=>(c::w)::ws|[]=>[[c]]:=by
   intro s
   conv=>lhs;unfold wordsSigns
   split
   ·rename_i h0;cases h0
   ·rename_i h0
    injection h0 with h1 h2
    exact absurd h1 h.1
   ·rename_i h0 _ h1
    injection h1 with h2 h3
    subst h2
    subst h3
    rfl
  show wordsSigns (c::(a++blank::r))=_
  rw [hc,e]
theorem io:Tryz.prog.initOrder=String.ofList (w1++blank::(w2++blank::(w3++blank::w4))):=zq13
theorem words:wordsSigns Tryz.prog.initOrder.toList=w1::w2::w3::wordsSigns w4:=by
 rw [io,String.toList_ofList,cut_at _ _ zq13,cut_at _ _ zq13,cut_at _ _ zq13]
theorem m0:((w1== "harness".toList||w1== "ownmain".toList)&&isSumSigns w2)=true:=zq13
theorem m1:(w3== "gc".toList)=false:=zq13
theorem m2:(w3== "spec".toList)=false:=zq13
theorem m3:(w3== "cut".toList)=true:=zq13
theorem m4:(w3== "carried".toList)=false:=zq13
theorem m5 (R:List (List Char)):((w3::R).head?==some "cut".toList)=true:=zq13
theorem m5c (R:List (List Char)):((w3::R).head?==some "carried".toList)=false:=zq13
theorem m6 (R:List (List Char)):stripLifts liftWords (w3::R)=([],w3::R):=zq13
theorem m7:Tryz.prog.laysLater=false:=zq13
theorem m8:Tryz.prog.bearsReflect=false:=zq13
theorem m9:Tryz.prog.doorFits []=true:=zq13
theorem behind (R:List (List Char)):behindMainWord (w1::w2::R)=R:=by
 show (if ((w1== "harness".toList||w1== "ownmain".toList)&&isSumSigns w2)=true then R else w1::w2::R)=R
 rw [if_pos m0]
theorem beh:∃R,behindMainWord (wordsSigns Tryz.prog.initOrder.toList)=w3::R:=⟨wordsSigns w4,by rw [words,behind]⟩
theorem lifts_of (P:Program) (R:List (List Char)) (h:behindMainWord (wordsSigns P.initOrder.toList)=w3::R):(false==P.liftsFinal)=true:=by
 unfold Program.liftsFinal Program.headLifts
 rw [h]
 simp only [m5,m5c,m6]
 rfl
theorem may_of (P:Program) (R:List (List Char)) (h:behindMainWord (wordsSigns P.initOrder.toList)=w3::R) (h7:P.laysLater=false) (h8:P.bearsReflect=false) (h9:P.doorFits []=true):P.mayEnter=true:=by
 unfold Program.mayEnter
 rw [h]
 simp only [m1,m2,m4,m5,m6,h7,h8,h9]
 rfl
theorem made_of (P:Program) (R:List (List Char)) (h:behindMainWord (wordsSigns P.initOrder.toList)=w3::R):(P.make==some Make.cut)=true:=by
 unfold Program.make Program.headLifts
 rw [h]
 simp only [m1,m2,m3]
 rfl
theorem lifts:(false==Tryz.prog.liftsFinal)=true:=by
 obtain ⟨R,h⟩:=beh
 exact lifts_of _ R h
theorem may:Tryz.prog.mayEnter=true:=by
 obtain ⟨R,h⟩:=beh
 exact may_of _ R h m7 m8 m9
theorem made:(Tryz.prog.make==some Make.cut)=true:=by
 obtain ⟨R,h⟩:=beh
 exact made_of _ R h
theorem laid:laidOutB Tryz.prog=true:=zq13
theorem maps:mapsRowed Tryz.prog=true:=zq13
theorem heard:Tryz.prog.stopsHeard=true:=zq13
theorem plain:(true==Tryz.prog.plainKeys)=true:=zq13
end Go.Proofs.YtonhdiemjgdcnaaGreat.Head
