import Derived.Test.YtonhdiemjgdcnaaGreatCW7
set_option maxHeartbeats 64000000
set_option maxRecDepth 100000
set_option linter.unusedVariables false
set_option linter.unusedSimpArgs false
namespace Go.Proofs
theorem zq7{P:Prop}(h:P:=by have o:=O.1;dsimp only [Off,OffA,Fct.box,Fct.made,List.set];and_intros<;>first|trivial|omega):P:=h
theorem zq19{P:Prop}(h:P:=by rw [Ecs.1];first|done|rfl|(simp only [aA,aN,aL];first|done|rfl)):P:=h
theorem zq24{P Q0:Prop}(q0:Q0)(h:Q0→P:=by intro q0;rw [q0];kernel_rfl):P:=h q0
theorem zq26{P:Prop}(h:P:=by rw [Ep.1];first|done|rfl|(simp only [aA,aN,aL];first|done|rfl)):P:=h
theorem zq32{P Q0 Q1 Q2:Prop}(q0:Q0)(q1:Q1)(q2:Q2)(h:Q0→Q1→Q2→P:=by intro q0 q1 q2;rw [q0];refine zaa (new:=d0) (pre:=[]) (mid:=[.int .i64 0,.int .i64 0,.int .i64 0,.slice none 0 0]) (post:=[.slice none 0 0,.slice none 0 0,.int .i64 0,.slice none 0 0,.slice none 0 0,.slice none 0 0,.int .i64 0]) rfl (by first|rfl|(simp only [aA,aN,aL];first|done|rfl)) (by show some (0,4)=some (_,_);rw [show (d0:List Value).length=4 from q1];first|done|rfl) (by rw [q1];rfl) ?_;refine zaa (new:=d1) (pre:=d0) (mid:=[.slice none 0 0,.slice none 0 0,.int .i64 0,.slice none 0 0,.slice none 0 0,.slice none 0 0]) (post:=[.int .i64 0]) rfl (by first|rfl|(simp only [aA,aN,aL];first|done|rfl)) (by show some (4,6)=some (_,_);rw [show (d0:List Value).length=4 from q1,show (d1:List Value).length=6 from q2];first|done|rfl) (by rw [q2];rfl) ?_;refine zaa (new:=[.int .i64 n]) (pre:=(d0++d1)) (mid:=[.int .i64 0]) (post:=[]) rfl (by first|rfl|(simp only [aA,aN,aL];first|done|rfl)) (by show some (10,1)=some (_,_);rw [show ((d0++d1):List Value).length=10 from by simp only [List.length_append,List.length_cons,List.length_nil,q2,q1]];first|done|rfl) (rfl) ?_;first|rfl|simp only [Instr.fill,aA,aN,aL]):P:=h q0 q1 q2
theorem zq40{P Q0:Prop}(q0:Q0)(h:Q0→P:=by intro q0;rw [q0];rfl):P:=h q0
theorem zq41{P:Prop}(h:P:=by simp only [List.length_append,List.length_cons,List.length_nil,LD.1,LM.1,LT.1]):P:=h
theorem zq45{P:Prop}(h:P:=by simp only [List.length_append,List.length_cons,List.length_nil,LD.1,LM.1]):P:=h
theorem zq47{P Q0 Q1:Prop}(q0:Q0)(q1:Q1)(h:Q0→Q1→P:=by intro q0 q1;simp only [List.length_append,List.length_cons,List.length_nil,q0,q1]):P:=h q0 q1
theorem zq53{P Q0 Q1 Q2:Prop}(q0:Q0)(q1:Q1)(q2:Q2)(h:Q0→Q1→Q2→P:=by intro q0 q1 q2;simp only [List.length_append,List.length_cons,List.length_nil,q0,q1,q2]):P:=h q0 q1 q2
theorem zq54{P Q0:Prop}(q0:Q0)(h:Q0→P:=by intro q0;rw [q0];exact zGb (d:=kWork) (kWork_of2 (E.1.made 3 rfl) (zeb (E.1.made 2 rfl)) (zeb (E.1.made 1 rfl)) (zeb (E.1.made 0 rfl)) (fun k h1 h2=>by have o:=O.1;(try simp only [Iv,true_and,or_false,false_or] at h1 h2)<;>omega) (fun k h1 h2=>by have o:=O.1;(try simp only [Iv,true_and,or_false,false_or] at h1 h2)<;>omega) (fun k h1 h2=>by have o:=O.1;(try simp only [Iv,true_and,or_false,false_or] at h1 h2)<;>omega)) (z3a _)):P:=h q0
theorem zq56{P:Prop}(h:P:=by rw [Eq.1];first|done|rfl|(simp only [aA,aN,aL];first|done|rfl)):P:=h
theorem zq58{P Q0:Prop}(q0:Q0)(h:Q0→P:=by intro q0;rw [q0];exact zGb (d:=kTxn) (comb (E.1.made 1 rfl) (comb (E.1.made 0 rfl) Mint (fun k h1 h2=>by have o:=O.1;(try simp only [Iv,true_and,or_false,false_or] at h1 h2)<;>omega)) (fun k h1 h2=>by have o:=O.1;(try simp only [Iv,true_and,or_false,false_or] at h1 h2)<;>omega)) (z3a _)):P:=h q0
theorem zq62{P Q0:Prop}(q0:Q0)(h:Q0→P:=by intro q0;simp only [aA,aN,aL];rw [q0];first|done|rfl|(simp only [aA,aN,aL];first|done|rfl)):P:=h q0
theorem zq71{P:Prop}(h:P:=by first|rfl|(simp only [List.map_toArray,List.map_cons,List.map_nil];rfl)):P:=h
theorem zq94{P Q0:Prop}(q0:Q0)(h:Q0→P:=by intro q0;simp only [List.length_append,List.length_cons,List.length_nil,q0]):P:=h q0
theorem zq101{P Q0:Prop}(q0:Q0)(h:Q0→P:=by intro q0;show some (0,2)=some (_,_);rw [show (d0:List Value).length=2 from q0];first|done|rfl):P:=h q0
theorem zq121{P Q0:Prop}(q0:Q0)(h:Q0→P:=by intro q0;rw [List.size_toArray,show (c0:List Value).length=11 from q0];kernel_rfl):P:=h q0
theorem zq122{P Q0:Prop}(q0:Q0)(h:Q0→P:=by intro q0;rw [List.size_toArray,show (c0:List Value).length=20 from q0];kernel_rfl):P:=h q0
end Go.Proofs
namespace Go.Proofs.YtonhdiemjgdcnaaGreat.PFnExactGivePage
open Go.RowKit Go.Proofs.YtonhdiemjgdcnaaGreatW.PrintWords Go.Proofs.YtonhdiemjgdcnaaGreatW.PrintLast Go.Proofs.YtonhdiemjgdcnaaGreatW.PrintMore
attribute [local go_sem] zma zla zwa zxa zba zca zoa zna
theorem el_M {W:World} {base:Nat} {el:S135} {d:List Value} {q:Nat→Prop} (h:k40.M W base q el.f1 d):k135.M W base (fun k=>False∨q k) el ([.int .i64 el.f0]++d):=
 ⟨[.int .i64 el.f0],d,rfl,rfl,k40.M_mono (fun k hk=> .inr hk) h⟩
def l11Copy_o_T1:Bool×List (List Nat×List Nat):=(true,[([],[]),([0],[0]),([1],[1]),([],[]),([3],[3]),([4,2],[4]),([],[]),([6],[6]),([2,5,7],[2,5,7]),([8,5,0,1,2,3,4,5,6,7,8],[8])])
def l11Copy_o_B1:List Nat:=[0,1,3,0,8,31,0,64,255,511]
theorem l11Copy_o_ok1_0:regT (zFa Tryz.f107 1) l11Copy_o_T1 l11Copy_o_B1 [] (.p 0 (.t 1 (.p 3 (.t 4 (.p 6 (.t 7 (.e 2 (.e 5 (.p 8 (.e 9 .d))))))))))=true:=zq13
theorem l11Copy_o (x:S40) (l0:List ByteArray) (l1:List S110) (l2:Int) (l3 l4 l5:List Int) (n:Int) {cs:List Value} (w:World) (h:kTxn.K w (x,(l0,l1,l2,l3,l4,l5),n) cs) (f1:zua x) (f2:((l0.length≤2000000∧l1.length≤2000000)∧l3.length≤2000000∧l4.length≤2000000∧l5.length≤2000000)):
  Calls Tryz.prog 107 #[.agg cs.toArray] w fun e w'=>∃ds:List Value,e= .returned (.agg ds.toArray)∧kTxn.M w' w.heap.size (Fr w w') (x,(l0,l1,l2,l3,l4,l5),n) ds∧Below w.heap.size w w':=by
 obtain ⟨cM,_,rfl,hM,cW,cI,rfl,hW,hI⟩:=h
 obtain rfl:cI=[.int .i64 n]:=hI
 obtain ⟨cs,hcs⟩:∃cs,cs=cM++(cW++[.int .i64 n]):=⟨_,rfl⟩
 rw [←hcs]
 have Ecs:=zz hcs
 have KM:=zz hM
 have KW:=zz hW
 have LM:=zz (show cM.length=4 from k40.K_len hM)
 have LW:=zz (show cW.length=6 from kWork.K_len hW)
 have F1:=zz f1
 have F2:=zz f2
 clear hM hW f1 f2 hcs
 have O:=zz (z3a w.heap.size)
 have E:=zz (Env.start w)
 go_enter Tryz.func107,Tryz.ntmps107
 go_upto_region 1 with (fail)
 replace O:=zz (And.intro E.1.le O.1)
 replace E:=zz (E.1.alloc cs 46 (g:=w.heap.size) rfl)
 replace E:=zz (E.1.alloc Z46 46 (g:=(w.heap.size+1)) zq38)
 replace E:=zz E.1.drew
 refine zfa l11Copy_o_ok1_0 (S:=fun w'=>w'.heap[w.heap.size]?=some (.cells (cs:List Value).toArray 46 (0,0))∧True) zq13 (fun _ _ _ _ h=>h) ⟨(E.1.box 1 rfl),trivial⟩ (fun hHeld=> ?_)
 generalize hq:World.drew _=w1_ at hHeld ⊢;replace E:=E.1.to hq;clear hq
 (refine zM (v:= ?_) (a':= ?_) rfl rfl (Or.inl ⟨zq22,zq12⟩) zq2 ?_)
 refine zB (a':= ?_) rfl rfl zq22 40 _ rfl w.heap.size 0 [] cM (cW++[.int .i64 n]) _ rfl (fun w' hs=>hs.1) zq19 (rfl) Tryz.underlying40 rfl zq89 zq2 ?_
 (refine zM (v:= ?_) (a':= ?_) rfl rfl (Or.inl ⟨zq22,zq12⟩) zq2 ?_)
 refine zB (a':= ?_) rfl rfl zq22 44 _ rfl w.heap.size 4 cM cW [.int .i64 n] _ rfl (fun w' hs=>hs.1) zq19 (LM.1) Tryz.underlying44 rfl (by rw [LW.1];kernel_rfl) zq2 ?_
 (refine zM (v:= ?_) (a':= ?_) rfl rfl (Or.inl ⟨zq22,zq12⟩) zq2 ?_)
 refine zL (a':= ?_) rfl rfl zq22 3 _ rfl w.heap.size 10 (cM++cW) (.int .i64 n) [] _ rfl (fun w' hs=>hs.1) zq19 (by simp only [List.length_append,List.length_cons,List.length_nil,LM.1,LW.1]) Tryz.underlying3 rfl zq2 ?_
 refine zS rfl (zC rfl Tryz.func34 zq13 rfl #[.agg cM.toArray] zq22 rfl zq14 ?_)
 with_reducible refine (zkb x x _ (E.1.K KM.1) ⟨rfl,F1.1⟩).mono ?_
 rintro e w5_ ⟨d0,rfl,M0,hb⟩
 have q:=E.1.made4 O.1 4 rfl M0 hb;clear O E M0 hb;obtain ⟨n7_,m8_,L0,Q0,O,E⟩:=q
 refine ⟨_,rfl,⟨(E.1.box 2 rfl),trivial⟩,(fun hHeld=> ?_)⟩
 refine zw (a':= ?_) zq2 ?_
 refine zS rfl (zC rfl Tryz.func131 zq13 rfl #[.agg cW.toArray] zq22 rfl zq14 ?_)
 with_reducible refine (l08Copy_n l0 l1 l2 l3 l4 l5 _ (E.1.K KW.1) F2.1).mono ?_
 rintro e w9_ ⟨d1,rfl,M1,hb⟩
 have q:=E.1.made4 O.1 6 rfl M1 hb;clear O E M1 hb;obtain ⟨n11_,m12_,L1,Q1,O,E⟩:=q
 refine ⟨_,rfl,⟨(E.1.box 3 rfl),trivial⟩,(fun hHeld=> ?_)⟩
 refine zw (a':= ?_) zq2 ?_
 obtain ⟨c0,E0,L2,O0⟩:=lump_ (d0++(d1++[.int .i64 n])) 11 (zq47 L1.1 L0.1) (zH Q0.1 (zH Q1.1 (zPa rfl)))
 refine zM (v:= .agg c0.toArray) (a':= ?_) rfl rfl (Or.inl ⟨zq22,zvb 46 _ rfl Z46 (fun w=>by kernel_rfl) _ Tryz.underlying46 #[(0,4),(4,6),(10,1)] (fun w=>by kernel_rfl) [(0,.agg d0.toArray),(1,.agg d1.toArray),(2,.int .i64 n)] zq71 c0 (zq32 E0.1 L0.1 L1.1)⟩) ?_ ?_;rotate_left;(· show Act.put _ (some _) _=_;simp only [Act.put,s_A,s_0,s_1,zKa];try rfl)
 refine zS rfl (zA rfl zq22 46 _ _ rfl (w.heap.size+1) 0 c0 [] Z46 [] rfl rfl (E.1.box 2 rfl) zq6 (rfl) (zq40 L2.1) (zq24 L2.1) O0.1 (fun W14_ hp hn=> ?_))
 replace E:=E.1.put2 2 hp hn zq7;clear hp hn
 refine ⟨⟨(E.1.box 3 rfl),trivial⟩,(fun hHeld=> ?_)⟩
 refine zX ?_
 clear hHeld
 go_wp2_with fail
 have BX:=zz (show _=some (Obj.cells (c0:List Value).toArray 46 (0,0)) from by first|exact (E.1.box 2 rfl)|simpa only [aA,aN,aL] using (E.1.box 2 rfl))
 refine bodyPost_ret (zya rfl _ _ (w.heap.size+1) 46 _ _ _ rfl BX.1 Tryz.underlying46 rfl (zq121 L2.1)) rfl ?_
 exact ⟨_,rfl,(zq58 E0.1),E.1.below⟩
def l12Copy_T1:Bool×List (List Nat×List Nat):=(true,[([],[]),([0],[0]),([1],[1]),([],[]),([3],[3]),([4,2],[4]),([],[]),([6],[6]),([7,5],[7]),([],[]),([9],[9]),([],[]),([11],[11]),([2,5,8,10,12],[2,5,8,10,12]),([],[]),([14,13,8,0,1,2,3,4,5,6,7,8,9,10,11,12,13,14],[13,14])])
def l12Copy_B1:List Nat:=[0,1,3,0,8,31,0,64,255,0,512,0,2048,8191,0,32767]
theorem l12Copy_ok1_0:regT (zFa Tryz.f63 1) l12Copy_T1 l12Copy_B1 [15] (.p 0 (.t 1 (.p 3 (.t 4 (.p 6 (.t 7 (.p 9 (.t 10 (.p 11 (.t 12 (.two 2 14 (.two 5 14 (.two 8 14 (.p 13 (.e 14 (.l 15 .d))) (.e 8 (.p 13 (.l 15 .d)))) (.e 5 (.e 8 (.p 13 (.l 15 .d))))) (.e 2 (.e 5 (.e 8 (.p 13 (.l 15 .d))))))))))))))))=true:=zq13
def l12Copy_T5:Bool×List (List Nat×List Nat):=(true,[([],[]),([0],[0]),([],[]),([2],[2]),([],[]),([3,4],[3,4]),([5],[5]),([6],[6]),([],[]),([8],[8]),([],[]),([9,10],[9,10]),([11],[11]),([12],[12]),([13],[13]),([7,14],[7,14]),([15],[15]),([1,16,14],[1,16]),([0,1,2,3,4,5,6,7,8,9,10,11,12,13,14,15,16,17],[]),([18,17,17,0,1,2,3,4,5,6,7,8,9,10,11,12,13,14,15,16,17],[17,18])])
def l12Copy_B5:List Nat:=[0,1,0,4,0,28,60,124,0,256,0,1792,3840,7936,16128,32764,65532,131071,262143,524287]
theorem l12Copy_ok5_1:regT (zFa Tryz.f63 5) l12Copy_T5 l12Copy_B5 [19] (.p 0 (.t 1 (.p 2 (.t 3 (.p 4 (.p 5 (.p 6 (.t 7 (.p 8 (.t 9 (.p 10 (.p 11 (.p 12 (.t 13 (.e 14 (.p 15 (.e 16 (.e 17 (.p 18 (.l 19 .d))))))))))))))))))))=true:=zq13
theorem l12Copy_o (a0:List ByteArray) (a1:List S110) (x:S40) (rs:List S135) (y:S40) (l0:List ByteArray) (l1:List S110) (l2:Int) (l3 l4 l5:List Int) (n:Int) (bw bf:Bool) {cs:List Value} (w:World) (h:kStore.K w ((a0,a1),x,rs,(y,(l0,l1,l2,l3,l4,l5),n),bw,bf) cs) (f1:a0.length≤2000000∧a1.length≤2000000) (f2:zua x) (f3:∀r∈rs,zua r.f1) (f4:zua y) (f5:((l0.length≤2000000∧l1.length≤2000000)∧l3.length≤2000000∧l4.length≤2000000∧l5.length≤2000000)) (hl:rs.length≤2000000):
  Calls Tryz.prog 63 #[.agg cs.toArray] w fun e w'=>∃ds:List Value,e= .returned (.agg ds.toArray)∧kStore.M w' w.heap.size (Fr w w') ((a0,a1),x,rs,(y,(l0,l1,l2,l3,l4,l5),n),bw,bf) ds∧Below w.heap.size w w':=by
 have KS0:=h
 obtain ⟨cD,_,rfl,hD,cM,_,rfl,hM,cR,_,rfl,hR,cT,_,rfl,hT,cB,cF,rfl,hW,hF⟩:=h
 obtain rfl:cB=[.bool bw]:=hW
 obtain rfl:cF=[.bool bf]:=hF
 have hR2:=hR
 obtain ⟨AR,ccR,rfl,mR,rR⟩:=hR
 obtain ⟨cs,hcs⟩:∃cs,cs=cD++(cM++([.slice AR rs.length ccR]++(cT++([.bool bw]++[.bool bf])))):=⟨_,rfl⟩
 rw [←hcs] at KS0 ⊢
 have Ecs:=zz hcs
 have KD:=zz (show kDisk.K w (a0,a1) cD from hD)
 have KM:=zz (show k40.K w x cM from hM)
 have CR:=zz rR
 have KT:=zz (show kTxn.K w (y,(l0,l1,l2,l3,l4,l5),n) cT from hT)
 have LD:=zz (show cD.length=2 from kDisk.K_len hD)
 have LM:=zz (show cM.length=4 from k40.K_len hM)
 have LT:=zz (show cT.length=11 from kTxn.K_len hT)
 have F1:=zz f1
 have F2:=zz f2
 have F3:=zz f3
 have F4:=zz f4
 have F5:=zz f5
 have FL:=zz hl
 clear KS0 hD hM hT hR2 mR rR hcs f1 f2 f3 f4 f5 hl
 have O:=zz (z3a w.heap.size)
 have E:=zz (Env.start w)
 go_enter Tryz.func63,Tryz.ntmps63
 go_upto_region 1 with (fail)
 replace O:=zz (And.intro E.1.le O.1)
 replace E:=zz (E.1.alloc cs 67 (g:=w.heap.size) rfl)
 replace E:=zz (E.1.alloc Z67 67 (g:=(w.heap.size+1)) zq38)
 go_cut [3] (fun v3 w'=>∃(g n1 m1 n2 m2 n3 m3 t:Nat) (dD dM dT:List Value),v3= .pointer (some ⟨g,0,none⟩)∧Z0 (w.heap.size+2≤g∧w.heap.size+2≤n1∧n1≤m1∧m1≤n2∧n2≤m2∧m2≤n3∧n3≤m3∧m3≤t∧g+1≤t∧(g<n1∨m1≤g)∧(g<n2∨m2≤g)∧(g<n3∨m3≤g))∧Z0 (Env w w' t [Fct.box g (dD++(dM++([.slice none 0 0]++(dT++([.bool bw]++[.bool bf])))):List Value) 67,Fct.made kTxn w.heap.size n3 m3 (fun _=>True) (y,(l0,l1,l2,l3,l4,l5),n) dT,Fct.made k40 w.heap.size n2 m2 (fun _=>True) x dM,Fct.made kDisk w.heap.size n1 m1 (fun _=>True) (a0,a1) dD,Fct.box (w.heap.size+1) Z67 67,Fct.box w.heap.size cs 67]))
 case first=>
  go_upto_region 1 with (fail)
  replace E:=zz E.1.drew
  refine zfa l12Copy_ok1_0 (S:=fun w'=>w'.heap[w.heap.size]?=some (.cells (cs:List Value).toArray 67 (0,0))∧True) zq13 (fun _ _ _ _ h=>h) ⟨(E.1.box 1 rfl),trivial⟩ (fun hHeld=> ?_)
  generalize hq:World.drew _=w5 at hHeld ⊢;replace E:=E.1.to hq;clear hq
  (refine zM (v:= ?_) (a':= ?_) rfl rfl (Or.inl ⟨zq22,zq12⟩) zq2 ?_)
  refine zB (a':= ?_) rfl rfl zq22 37 _ rfl w.heap.size 0 [] cD (cM++([.slice AR rs.length ccR]++(cT++([.bool bw]++[.bool bf])))) _ rfl (fun w' hs=>hs.1) zq19 (rfl) Tryz.underlying37 rfl zq128 zq2 ?_
  (refine zM (v:= ?_) (a':= ?_) rfl rfl (Or.inl ⟨zq22,zq12⟩) zq2 ?_)
  refine zB (a':= ?_) rfl rfl zq22 40 _ rfl w.heap.size 2 cD cM ([.slice AR rs.length ccR]++(cT++([.bool bw]++[.bool bf]))) _ rfl (fun w' hs=>hs.1) zq19 (LD.1) Tryz.underlying40 rfl zq89 zq2 ?_
  (refine zM (v:= ?_) (a':= ?_) rfl rfl (Or.inl ⟨zq22,zq12⟩) zq2 ?_)
  refine zB (a':= ?_) rfl rfl zq22 46 _ rfl w.heap.size 7 (cD++(cM++[.slice AR rs.length ccR])) cT ([.bool bw]++[.bool bf]) _ rfl (fun w' hs=>hs.1) zq19 zq45 Tryz.underlying46 rfl zq113 zq2 ?_
  (refine zM (v:= ?_) (a':= ?_) rfl rfl (Or.inl ⟨zq22,zq12⟩) zq2 ?_)
  refine zL (a':= ?_) rfl rfl zq22 4 _ rfl w.heap.size 18 (cD++(cM++([.slice AR rs.length ccR]++cT))) (.bool bw) [.bool bf] _ rfl (fun w' hs=>hs.1) zq19 zq41 Tryz.underlying4 rfl zq2 ?_
  (refine zM (v:= ?_) (a':= ?_) rfl rfl (Or.inl ⟨zq22,zq12⟩) zq2 ?_)
  refine zL (a':= ?_) rfl rfl zq22 4 _ rfl w.heap.size 19 (cD++(cM++([.slice AR rs.length ccR]++(cT++[.bool bw])))) (.bool bf) [] _ rfl (fun w' hs=>hs.1) zq19 zq41 Tryz.underlying4 rfl zq2 ?_
  refine zob rfl rfl (zC rfl Tryz.func36 zq13 rfl #[.agg cD.toArray] zq22 rfl zq14 ?_) (zAa rfl zq22 67 rfl Z67 zq13 ?_)
  ·
   with_reducible refine (zWb a0 a1 _ (E.1.K KD.1) F1.1).mono ?_
   rintro e w6 ⟨d0,rfl,M0,hb⟩
   have q:=E.1.made4 O.1 2 rfl M0 hb;clear O E M0 hb;obtain ⟨n0,m10,L0,Q0,O,E⟩:=q
   refine ⟨_,rfl,⟨(E.1.box 2 rfl),trivial⟩,(fun hHeld=> ?_)⟩
   refine zw (a':= ?_) zq2 ?_
   refine zob rfl rfl (zC rfl Tryz.func34 zq13 rfl #[.agg cM.toArray] zq22 rfl zq14 ?_) (zAa rfl zq22 67 rfl Z67 zq13 ?_)
   ·
    with_reducible refine (zkb x x _ (E.1.K KM.1) ⟨rfl,F2.1⟩).mono ?_
    rintro e w7 ⟨d1,rfl,M1,hb⟩
    have q:=E.1.made4 O.1 4 rfl M1 hb;clear O E M1 hb;obtain ⟨n4,m11,L1,Q1,O,E⟩:=q
    refine ⟨_,rfl,⟨(E.1.box 3 rfl),trivial⟩,(fun hHeld=> ?_)⟩
    refine zw (a':= ?_) zq2 ?_
    refine zob rfl rfl (zC rfl Tryz.func107 zq13 rfl #[.agg cT.toArray] zq22 rfl zq14 ?_) (zAa rfl zq22 67 rfl Z67 zq13 ?_)
    ·
     with_reducible refine (l11Copy_o y l0 l1 l2 l3 l4 l5 n _ (E.1.K KT.1) F4.1 F5.1).mono ?_
     rintro e w8 ⟨d2,rfl,M2,hb⟩
     have q:=E.1.made4 O.1 11 rfl M2 hb;clear O E M2 hb;obtain ⟨n5,m12,L2,Q2,O,E⟩:=q
     refine ⟨_,rfl,⟨(E.1.box 4 rfl),trivial⟩,(fun hHeld=> ?_)⟩
     refine zw (a':= ?_) zq2 ?_
     obtain ⟨c11,E0,L3,O0⟩:=lump_ (d0++(d1++([.slice none 0 0]++(d2++([.bool bw]++[.bool bf]))))) 20 (zq53 L1.1 L2.1 L0.1) (zH Q0.1 (zH Q1.1 (zH (zPa rfl) (zH Q2.1 (zH (zPa rfl) (zPa rfl))))))
     refine zM (v:= .agg c11.toArray) (a':= ?_) rfl rfl (Or.inl ⟨zq22,zvb 67 _ rfl Z67 (fun w=>by kernel_rfl) _ Tryz.underlying67 #[(0,2),(2,4),(6,1),(7,11),(18,1),(19,1)] (fun w=>by kernel_rfl) [(0,.agg d0.toArray),(1,.agg d1.toArray),(3,.agg d2.toArray),(4,.bool bw),(5,.bool bf)] zq71 c11 (by rw [E0.1];refine zaa (new:=d0) (pre:=[]) (mid:=[.slice none 0 0,.slice none 0 0]) (post:=[.int .i64 0,.int .i64 0,.int .i64 0,.slice none 0 0,.slice none 0 0,.int .i64 0,.int .i64 0,.int .i64 0,.slice none 0 0,.slice none 0 0,.slice none 0 0,.int .i64 0,.slice none 0 0,.slice none 0 0,.slice none 0 0,.int .i64 0,.bool false,.bool false]) rfl zq6 (zq101 L0.1) (zq40 L0.1) ?_;refine zaa (new:=d1) (pre:=d0) (mid:=[.int .i64 0,.int .i64 0,.int .i64 0,.slice none 0 0]) (post:=[.slice none 0 0,.int .i64 0,.int .i64 0,.int .i64 0,.slice none 0 0,.slice none 0 0,.slice none 0 0,.int .i64 0,.slice none 0 0,.slice none 0 0,.slice none 0 0,.int .i64 0,.bool false,.bool false]) rfl zq6 (by show some (2,4)=some (_,_);rw [show (d0:List Value).length=2 from L0.1,show (d1:List Value).length=4 from L1.1];first|done|rfl) (zq40 L1.1) ?_;refine zaa (new:=d2) (pre:=(d0++(d1++[.slice none 0 0]))) (mid:=[.int .i64 0,.int .i64 0,.int .i64 0,.slice none 0 0,.slice none 0 0,.slice none 0 0,.int .i64 0,.slice none 0 0,.slice none 0 0,.slice none 0 0,.int .i64 0]) (post:=[.bool false,.bool false]) rfl zq6 (by show some (7,11)=some (_,_);rw [show ((d0++(d1++[.slice none 0 0])):List Value).length=7 from by simp only [List.length_append,List.length_cons,List.length_nil,L1.1,L0.1],show (d2:List Value).length=11 from L2.1];first|done|rfl) (zq40 L2.1) ?_;refine zaa (new:=[.bool bw]) (pre:=(d0++(d1++([.slice none 0 0]++d2)))) (mid:=[.bool false]) (post:=[.bool false]) rfl zq6 (by show some (18,1)=some (_,_);rw [show ((d0++(d1++([.slice none 0 0]++d2))):List Value).length=18 from by simp only [List.length_append,List.length_cons,List.length_nil,L1.1,L2.1,L0.1]];first|done|rfl) (rfl) ?_;refine zaa (new:=[.bool bf]) (pre:=(d0++(d1++([.slice none 0 0]++(d2++[.bool bw]))))) (mid:=[.bool false]) (post:=[]) rfl zq6 (by show some (19,1)=some (_,_);rw [show ((d0++(d1++([.slice none 0 0]++(d2++[.bool bw])))):List Value).length=19 from by simp only [List.length_append,List.length_cons,List.length_nil,L1.1,L2.1,L0.1]];first|done|rfl) (rfl) ?_;first|rfl|simp only [Instr.fill,aA,aN,aL])⟩) ?_ ?_;rotate_left;(· show Act.put _ (some _) _=_;simp only [Act.put,s_A,s_0,s_1,zKa];try rfl)
     refine zS rfl (zAa rfl zq22 67 rfl Z67 zq13 ?_)
     replace O:=zz (And.intro E.1.le O.1)
     replace E:=zz (E.1.alloc Z67 67 (g:=w8.heap.size) rfl)
     refine ⟨⟨(E.1.box 5 rfl),trivial⟩,(fun hHeld=> ?_)⟩
     refine zw (a':= ?_) zq2 ?_
     generalize (w8.alloc (.cells Z67.toArray 67))=w20_ at E hHeld ⊢
     refine tre_l rfl (zA rfl zq22 67 _ _ rfl w8.heap.size 0 c11 [] Z67 [] rfl rfl (E.1.box 0 rfl) zq6 (rfl) (zq40 L3.1) (zq24 L3.1) O0.1 (fun W21_ hp hn=> ?_))
     replace E:=E.1.put2 0 hp hn zq7;clear hp hn
     replace E:=zz (E.1.pick [(0,_),(1,_),(2,_),(3,_),(4,_),(5,_)] ⟨rfl,rfl,rfl,rfl,rfl,rfl,trivial⟩)
     refine zX ?_
     clear hHeld
     go_wp2_with fail
     go_meet
     exact ⟨w8.heap.size,n0,m10,n4,m11,n5,m12,(w8.heap.size+1),d0,d1,d2,rfl,⟨by have o:=O.1;and_intros<;>omega⟩,⟨by have e:=E.1;simp only [List.map_cons,List.map_nil,aN,aL,E0.1] at e;exact e⟩⟩
    ·
     replace O:=zz (And.intro E.1.le O.1)
     replace E:=zz (E.1.alloc Z67 67 (g:=w7.heap.size) rfl)
     refine ⟨⟨(E.1.box 4 rfl),trivial⟩,(fun hHeld=> ?_)⟩
     refine zw (a':= ?_) zq2 ?_
     generalize (w7.alloc (.cells Z67.toArray 67))=w22_ at E hHeld ⊢
     refine zS rfl (zC rfl Tryz.func107 zq13 rfl #[.agg cT.toArray] zq22 rfl zq14 ?_)
     with_reducible refine (l11Copy_o y l0 l1 l2 l3 l4 l5 n _ (E.1.K KT.1) F4.1 F5.1).mono ?_
     rintro e w23_ ⟨d3,rfl,M3,hb⟩
     have q:=E.1.made4 O.1 11 rfl M3 hb;clear O E M3 hb;obtain ⟨n6,m13,L4,Q3,O,E⟩:=q
     refine ⟨_,rfl,⟨(E.1.box 5 rfl),trivial⟩,(fun hHeld=> ?_)⟩
     refine zw (a':= ?_) zq2 ?_
     obtain ⟨c12,E1,L5,O1⟩:=lump_ (d0++(d1++([.slice none 0 0]++(d3++([.bool bw]++[.bool bf]))))) 20 (zq53 L1.1 L4.1 L0.1) (zH Q0.1 (zH Q1.1 (zH (zPa rfl) (zH Q3.1 (zH (zPa rfl) (zPa rfl))))))
     refine zM (v:= .agg c12.toArray) (a':= ?_) rfl rfl (Or.inl ⟨zq22,zvb 67 _ rfl Z67 (fun w=>by kernel_rfl) _ Tryz.underlying67 #[(0,2),(2,4),(6,1),(7,11),(18,1),(19,1)] (fun w=>by kernel_rfl) [(0,.agg d0.toArray),(1,.agg d1.toArray),(3,.agg d3.toArray),(4,.bool bw),(5,.bool bf)] zq71 c12 (by rw [E1.1];refine zaa (new:=d0) (pre:=[]) (mid:=[.slice none 0 0,.slice none 0 0]) (post:=[.int .i64 0,.int .i64 0,.int .i64 0,.slice none 0 0,.slice none 0 0,.int .i64 0,.int .i64 0,.int .i64 0,.slice none 0 0,.slice none 0 0,.slice none 0 0,.int .i64 0,.slice none 0 0,.slice none 0 0,.slice none 0 0,.int .i64 0,.bool false,.bool false]) rfl zq6 (zq101 L0.1) (zq40 L0.1) ?_;refine zaa (new:=d1) (pre:=d0) (mid:=[.int .i64 0,.int .i64 0,.int .i64 0,.slice none 0 0]) (post:=[.slice none 0 0,.int .i64 0,.int .i64 0,.int .i64 0,.slice none 0 0,.slice none 0 0,.slice none 0 0,.int .i64 0,.slice none 0 0,.slice none 0 0,.slice none 0 0,.int .i64 0,.bool false,.bool false]) rfl zq6 (by show some (2,4)=some (_,_);rw [show (d0:List Value).length=2 from L0.1,show (d1:List Value).length=4 from L1.1];first|done|rfl) (zq40 L1.1) ?_;refine zaa (new:=d3) (pre:=(d0++(d1++[.slice none 0 0]))) (mid:=[.int .i64 0,.int .i64 0,.int .i64 0,.slice none 0 0,.slice none 0 0,.slice none 0 0,.int .i64 0,.slice none 0 0,.slice none 0 0,.slice none 0 0,.int .i64 0]) (post:=[.bool false,.bool false]) rfl zq6 (by show some (7,11)=some (_,_);rw [show ((d0++(d1++[.slice none 0 0])):List Value).length=7 from by simp only [List.length_append,List.length_cons,List.length_nil,L1.1,L0.1],show (d3:List Value).length=11 from L4.1];first|done|rfl) (zq40 L4.1) ?_;refine zaa (new:=[.bool bw]) (pre:=(d0++(d1++([.slice none 0 0]++d3)))) (mid:=[.bool false]) (post:=[.bool false]) rfl zq6 (by show some (18,1)=some (_,_);rw [show ((d0++(d1++([.slice none 0 0]++d3))):List Value).length=18 from by simp only [List.length_append,List.length_cons,List.length_nil,L1.1,L4.1,L0.1]];first|done|rfl) (rfl) ?_;refine zaa (new:=[.bool bf]) (pre:=(d0++(d1++([.slice none 0 0]++(d3++[.bool bw]))))) (mid:=[.bool false]) (post:=[]) rfl zq6 (by show some (19,1)=some (_,_);rw [show ((d0++(d1++([.slice none 0 0]++(d3++[.bool bw])))):List Value).length=19 from by simp only [List.length_append,List.length_cons,List.length_nil,L1.1,L4.1,L0.1]];first|done|rfl) (rfl) ?_;first|rfl|simp only [Instr.fill,aA,aN,aL])⟩) ?_ ?_;rotate_left;(· show Act.put _ (some _) _=_;simp only [Act.put,s_A,s_0,s_1,zKa];try rfl)
     refine tre_l rfl (zA rfl zq22 67 _ _ rfl w7.heap.size 0 c12 [] Z67 [] rfl rfl (E.1.box 1 rfl) zq6 (rfl) (zq40 L5.1) (zq24 L5.1) O1.1 (fun W28_ hp hn=> ?_))
     replace E:=E.1.put2 1 hp hn zq7;clear hp hn
     replace E:=zz (E.1.pick [(1,_),(0,_),(2,_),(3,_),(4,_),(5,_)] ⟨rfl,rfl,rfl,rfl,rfl,rfl,trivial⟩)
     refine zX ?_
     clear hHeld
     go_wp2_with fail
     go_meet
     exact ⟨w7.heap.size,n0,m10,n4,m11,n6,m13,m13,d0,d1,d3,rfl,⟨by have o:=O.1;and_intros<;>omega⟩,⟨by have e:=E.1;simp only [List.map_cons,List.map_nil,aN,aL,E1.1] at e;exact e⟩⟩
   ·
    replace O:=zz (And.intro E.1.le O.1)
    replace E:=zz (E.1.alloc Z67 67 (g:=w6.heap.size) rfl)
    refine ⟨⟨(E.1.box 3 rfl),trivial⟩,(fun hHeld=> ?_)⟩
    refine zw (a':= ?_) zq2 ?_
    generalize (w6.alloc (.cells Z67.toArray 67))=w29_ at E hHeld ⊢
    refine zS rfl (zC rfl Tryz.func34 zq13 rfl #[.agg cM.toArray] zq22 rfl zq14 ?_)
    with_reducible refine (zkb x x _ (E.1.K KM.1) ⟨rfl,F2.1⟩).mono ?_
    rintro e w30_ ⟨d4,rfl,M4,hb⟩
    have q:=E.1.made4 O.1 4 rfl M4 hb;clear O E M4 hb;obtain ⟨n7,m14,L6,Q4,O,E⟩:=q
    refine ⟨_,rfl,⟨(E.1.box 4 rfl),trivial⟩,(fun hHeld=> ?_)⟩
    refine zw (a':= ?_) zq2 ?_
    refine zS rfl (zC rfl Tryz.func107 zq13 rfl #[.agg cT.toArray] zq22 rfl zq14 ?_)
    with_reducible refine (l11Copy_o y l0 l1 l2 l3 l4 l5 n _ (E.1.K KT.1) F4.1 F5.1).mono ?_
    rintro e w34_ ⟨d5,rfl,M5,hb⟩
    have q:=E.1.made4 O.1 11 rfl M5 hb;clear O E M5 hb;obtain ⟨n8,m15,L7,Q5,O,E⟩:=q
    refine ⟨_,rfl,⟨(E.1.box 5 rfl),trivial⟩,(fun hHeld=> ?_)⟩
    refine zw (a':= ?_) zq2 ?_
    obtain ⟨c13,E3,L8,O3⟩:=lump_ (d0++(d4++([.slice none 0 0]++(d5++([.bool bw]++[.bool bf]))))) 20 (zq53 L6.1 L7.1 L0.1) (zH Q0.1 (zH Q4.1 (zH (zPa rfl) (zH Q5.1 (zH (zPa rfl) (zPa rfl))))))
    refine zM (v:= .agg c13.toArray) (a':= ?_) rfl rfl (Or.inl ⟨zq22,zvb 67 _ rfl Z67 (fun w=>by kernel_rfl) _ Tryz.underlying67 #[(0,2),(2,4),(6,1),(7,11),(18,1),(19,1)] (fun w=>by kernel_rfl) [(0,.agg d0.toArray),(1,.agg d4.toArray),(3,.agg d5.toArray),(4,.bool bw),(5,.bool bf)] zq71 c13 (by rw [E3.1];refine zaa (new:=d0) (pre:=[]) (mid:=[.slice none 0 0,.slice none 0 0]) (post:=[.int .i64 0,.int .i64 0,.int .i64 0,.slice none 0 0,.slice none 0 0,.int .i64 0,.int .i64 0,.int .i64 0,.slice none 0 0,.slice none 0 0,.slice none 0 0,.int .i64 0,.slice none 0 0,.slice none 0 0,.slice none 0 0,.int .i64 0,.bool false,.bool false]) rfl zq6 (zq101 L0.1) (zq40 L0.1) ?_;refine zaa (new:=d4) (pre:=d0) (mid:=[.int .i64 0,.int .i64 0,.int .i64 0,.slice none 0 0]) (post:=[.slice none 0 0,.int .i64 0,.int .i64 0,.int .i64 0,.slice none 0 0,.slice none 0 0,.slice none 0 0,.int .i64 0,.slice none 0 0,.slice none 0 0,.slice none 0 0,.int .i64 0,.bool false,.bool false]) rfl zq6 (by show some (2,4)=some (_,_);rw [show (d0:List Value).length=2 from L0.1,show (d4:List Value).length=4 from L6.1];first|done|rfl) (zq40 L6.1) ?_;refine zaa (new:=d5) (pre:=(d0++(d4++[.slice none 0 0]))) (mid:=[.int .i64 0,.int .i64 0,.int .i64 0,.slice none 0 0,.slice none 0 0,.slice none 0 0,.int .i64 0,.slice none 0 0,.slice none 0 0,.slice none 0 0,.int .i64 0]) (post:=[.bool false,.bool false]) rfl zq6 (by show some (7,11)=some (_,_);rw [show ((d0++(d4++[.slice none 0 0])):List Value).length=7 from by simp only [List.length_append,List.length_cons,List.length_nil,L6.1,L0.1],show (d5:List Value).length=11 from L7.1];first|done|rfl) (zq40 L7.1) ?_;refine zaa (new:=[.bool bw]) (pre:=(d0++(d4++([.slice none 0 0]++d5)))) (mid:=[.bool false]) (post:=[.bool false]) rfl zq6 (by show some (18,1)=some (_,_);rw [show ((d0++(d4++([.slice none 0 0]++d5))):List Value).length=18 from by simp only [List.length_append,List.length_cons,List.length_nil,L6.1,L7.1,L0.1]];first|done|rfl) (rfl) ?_;refine zaa (new:=[.bool bf]) (pre:=(d0++(d4++([.slice none 0 0]++(d5++[.bool bw]))))) (mid:=[.bool false]) (post:=[]) rfl zq6 (by show some (19,1)=some (_,_);rw [show ((d0++(d4++([.slice none 0 0]++(d5++[.bool bw])))):List Value).length=19 from by simp only [List.length_append,List.length_cons,List.length_nil,L6.1,L7.1,L0.1]];first|done|rfl) (rfl) ?_;first|rfl|simp only [Instr.fill,aA,aN,aL])⟩) ?_ ?_;rotate_left;(· show Act.put _ (some _) _=_;simp only [Act.put,s_A,s_0,s_1,zKa];try rfl)
    refine tre_l rfl (zA rfl zq22 67 _ _ rfl w6.heap.size 0 c13 [] Z67 [] rfl rfl (E.1.box 2 rfl) zq6 (rfl) (zq40 L8.1) (zq24 L8.1) O3.1 (fun W39_ hp hn=> ?_))
    replace E:=E.1.put2 2 hp hn zq7;clear hp hn
    replace E:=zz (E.1.pick [(2,_),(0,_),(1,_),(3,_),(4,_),(5,_)] ⟨rfl,rfl,rfl,rfl,rfl,rfl,trivial⟩)
    refine zX ?_
    clear hHeld
    go_wp2_with fail
    go_meet
    exact ⟨w6.heap.size,n0,m10,n7,m14,n8,m15,m15,d0,d4,d5,rfl,⟨by have o:=O.1;and_intros<;>omega⟩,⟨by have e:=E.1;simp only [List.map_cons,List.map_nil,aN,aL,E3.1] at e;exact e⟩⟩
  ·
   replace O:=zz (And.intro E.1.le O.1)
   replace E:=zz (E.1.alloc Z67 67 (g:=w5.heap.size) rfl)
   refine ⟨⟨(E.1.box 2 rfl),trivial⟩,(fun hHeld=> ?_)⟩
   refine zw (a':= ?_) zq2 ?_
   generalize (w5.alloc (.cells Z67.toArray 67))=w40_ at E hHeld ⊢
   refine zS rfl (zC rfl Tryz.func36 zq13 rfl #[.agg cD.toArray] zq22 rfl zq14 ?_)
   with_reducible refine (zWb a0 a1 _ (E.1.K KD.1) F1.1).mono ?_
   rintro e w41_ ⟨d6,rfl,M6,hb⟩
   have q:=E.1.made4 O.1 2 rfl M6 hb;clear O E M6 hb;obtain ⟨n9,m16,L9,Q6,O,E⟩:=q
   refine ⟨_,rfl,⟨(E.1.box 3 rfl),trivial⟩,(fun hHeld=> ?_)⟩
   refine zw (a':= ?_) zq2 ?_
   refine zS rfl (zC rfl Tryz.func34 zq13 rfl #[.agg cM.toArray] zq22 rfl zq14 ?_)
   with_reducible refine (zkb x x _ (E.1.K KM.1) ⟨rfl,F2.1⟩).mono ?_
   rintro e w45_ ⟨d7,rfl,M7,hb⟩
   have q:=E.1.made4 O.1 4 rfl M7 hb;clear O E M7 hb;obtain ⟨n10,m17,L10,Q7,O,E⟩:=q
   refine ⟨_,rfl,⟨(E.1.box 4 rfl),trivial⟩,(fun hHeld=> ?_)⟩
   refine zw (a':= ?_) zq2 ?_
   refine zS rfl (zC rfl Tryz.func107 zq13 rfl #[.agg cT.toArray] zq22 rfl zq14 ?_)
   with_reducible refine (l11Copy_o y l0 l1 l2 l3 l4 l5 n _ (E.1.K KT.1) F4.1 F5.1).mono ?_
   rintro e w49_ ⟨d8,rfl,M8,hb⟩
   have q:=E.1.made4 O.1 11 rfl M8 hb;clear O E M8 hb;obtain ⟨n11,m18,L11,Q8,O,E⟩:=q
   refine ⟨_,rfl,⟨(E.1.box 5 rfl),trivial⟩,(fun hHeld=> ?_)⟩
   refine zw (a':= ?_) zq2 ?_
   obtain ⟨c14,E4,L12,O4⟩:=lump_ (d6++(d7++([.slice none 0 0]++(d8++([.bool bw]++[.bool bf]))))) 20 (zq53 L9.1 L10.1 L11.1) (zH Q6.1 (zH Q7.1 (zH (zPa rfl) (zH Q8.1 (zH (zPa rfl) (zPa rfl))))))
   refine zM (v:= .agg c14.toArray) (a':= ?_) rfl rfl (Or.inl ⟨zq22,zvb 67 _ rfl Z67 (fun w=>by kernel_rfl) _ Tryz.underlying67 #[(0,2),(2,4),(6,1),(7,11),(18,1),(19,1)] (fun w=>by kernel_rfl) [(0,.agg d6.toArray),(1,.agg d7.toArray),(3,.agg d8.toArray),(4,.bool bw),(5,.bool bf)] zq71 c14 (by rw [E4.1];refine zaa (new:=d6) (pre:=[]) (mid:=[.slice none 0 0,.slice none 0 0]) (post:=[.int .i64 0,.int .i64 0,.int .i64 0,.slice none 0 0,.slice none 0 0,.int .i64 0,.int .i64 0,.int .i64 0,.slice none 0 0,.slice none 0 0,.slice none 0 0,.int .i64 0,.slice none 0 0,.slice none 0 0,.slice none 0 0,.int .i64 0,.bool false,.bool false]) rfl zq6 (by show some (0,2)=some (_,_);rw [show (d6:List Value).length=2 from L9.1];first|done|rfl) (zq40 L9.1) ?_;refine zaa (new:=d7) (pre:=d6) (mid:=[.int .i64 0,.int .i64 0,.int .i64 0,.slice none 0 0]) (post:=[.slice none 0 0,.int .i64 0,.int .i64 0,.int .i64 0,.slice none 0 0,.slice none 0 0,.slice none 0 0,.int .i64 0,.slice none 0 0,.slice none 0 0,.slice none 0 0,.int .i64 0,.bool false,.bool false]) rfl zq6 (by show some (2,4)=some (_,_);rw [show (d6:List Value).length=2 from L9.1,show (d7:List Value).length=4 from L10.1];first|done|rfl) (zq40 L10.1) ?_;refine zaa (new:=d8) (pre:=(d6++(d7++[.slice none 0 0]))) (mid:=[.int .i64 0,.int .i64 0,.int .i64 0,.slice none 0 0,.slice none 0 0,.slice none 0 0,.int .i64 0,.slice none 0 0,.slice none 0 0,.slice none 0 0,.int .i64 0]) (post:=[.bool false,.bool false]) rfl zq6 (by show some (7,11)=some (_,_);rw [show ((d6++(d7++[.slice none 0 0])):List Value).length=7 from by simp only [List.length_append,List.length_cons,List.length_nil,L9.1,L10.1],show (d8:List Value).length=11 from L11.1];first|done|rfl) (zq40 L11.1) ?_;refine zaa (new:=[.bool bw]) (pre:=(d6++(d7++([.slice none 0 0]++d8)))) (mid:=[.bool false]) (post:=[.bool false]) rfl zq6 (by show some (18,1)=some (_,_);rw [show ((d6++(d7++([.slice none 0 0]++d8))):List Value).length=18 from by simp only [List.length_append,List.length_cons,List.length_nil,L9.1,L10.1,L11.1]];first|done|rfl) (rfl) ?_;refine zaa (new:=[.bool bf]) (pre:=(d6++(d7++([.slice none 0 0]++(d8++[.bool bw]))))) (mid:=[.bool false]) (post:=[]) rfl zq6 (by show some (19,1)=some (_,_);rw [show ((d6++(d7++([.slice none 0 0]++(d8++[.bool bw])))):List Value).length=19 from by simp only [List.length_append,List.length_cons,List.length_nil,L9.1,L10.1,L11.1]];first|done|rfl) (rfl) ?_;first|rfl|simp only [Instr.fill,aA,aN,aL])⟩) ?_ ?_;rotate_left;(· show Act.put _ (some _) _=_;simp only [Act.put,s_A,s_0,s_1,zKa];try rfl)
   refine tre_l rfl (zA rfl zq22 67 _ _ rfl w5.heap.size 0 c14 [] Z67 [] rfl rfl (E.1.box 3 rfl) zq6 (rfl) (zq40 L12.1) (zq24 L12.1) O4.1 (fun W54_ hp hn=> ?_))
   replace E:=E.1.put2 3 hp hn zq7;clear hp hn
   replace E:=zz (E.1.pick [(3,_),(0,_),(1,_),(2,_),(4,_),(5,_)] ⟨rfl,rfl,rfl,rfl,rfl,rfl,trivial⟩)
   refine zX ?_
   clear hHeld
   go_wp2_with fail
   go_meet
   exact ⟨w5.heap.size,n9,m16,n10,m17,n11,m18,m18,d6,d7,d8,rfl,⟨by have o:=O.1;and_intros<;>omega⟩,⟨by have e:=E.1;simp only [List.map_cons,List.map_nil,aN,aL,E4.1] at e;exact e⟩⟩
 case rest=>
  clear E O
  obtain ⟨g,n1,m1,n2,m2,n3,m3,t,dD,dM,dT,rfl,O,E⟩:=hcut
  have LdT:=zz (show dT.length=11 from Kd.K_len _ (E.1.mk_ 1 rfl));have OdT:=zz (zU (E.1.mk_ 1 rfl))
  have LdM:=zz (show dM.length=4 from Kd.K_len _ (E.1.mk_ 2 rfl));have OdM:=zz (zU (E.1.mk_ 2 rfl))
  have LdD:=zz (show dD.length=2 from Kd.K_len _ (E.1.mk_ 3 rfl));have OdD:=zz (zU (E.1.mk_ 3 rfl))
  have E2:=zz (E.1.add (Fct.made (Own.srow 135 k135) w.heap.size t t (fun _=>True) [] [.slice none 0 0]) (z3a t) ⟨_,rfl,Kd.S_nil _ _ _ _ _⟩)
  clear E
  go_wp2_with fail
  go_loopg [4] (rs.length+1) (fun kq v4 w'=>∃(i u:Nat) (v:Value),v4= .int .i64 (i:Int)∧Z0 (kq+i=rs.length+1)∧Z0 (i≤rs.length)∧Z0 (t≤u)∧Z0 (Env w w' u [Fct.made (Own.srow 135 k135) w.heap.size t u (fun _=>True) (rs.take i) [v],Fct.box g (dD++(dM++([v]++(dT++([.bool bw]++[.bool bf])))):List Value) 67,Fct.made kTxn w.heap.size n3 m3 (fun _=>True) (y,(l0,l1,l2,l3,l4,l5),n) dT,Fct.made k40 w.heap.size n2 m2 (fun _=>True) x dM,Fct.made kDisk w.heap.size n1 m1 (fun _=>True) (a0,a1) dD,Fct.box (w.heap.size+1) Z67 67,Fct.box w.heap.size cs 67]))
  case atStart=>exact ⟨0,t,_,rfl,⟨zq9⟩,⟨z0b _⟩,⟨z3a _⟩,⟨E2.1⟩⟩
  case round=>
   clear E2
   obtain ⟨i,u,v,rfl,HQ,HI,HU,E⟩:=hrel
   obtain ⟨xs,hxs⟩:∃xs,xs=rs.take i:=⟨_,rfl⟩
   rw [←hxs] at E
   have HX:=zz hxs
   clear hxs
   obtain ⟨Av,cv,hv,-⟩:=E.1.mk_ 0 rfl
   injection hv with hv
   subst hv
   replace O:=zz (And.intro HU.1 O.1)
   by_cases hlt:i<rs.length
   ·have c1:decide ((i:Int)<(rs.length:Int))=true:=z6 zq9
    have c0:decide ((0:Int)≤(i:Int))=true:=z6 zq9
    have c2:((i:Int)<(rs.length:Int))=True:=eq_true zq9
    have c3:((0:Int)≤(i:Int))=True:=eq_true zq9
    cases gk with
    |zero=>exact absurd HQ.1 zq9
    |succ k1=>
     obtain ⟨ad,A4,c4,hA,z0,z1,z2,z3,z4,hl4,hC4⟩:=zgc CR.1 (i:Int) zq9 zq9
     subst hA
     obtain ⟨el,hel⟩:∃el,el=zE rs (i:Int):=⟨_,rfl⟩
     have hel2:el=rs[i]:=by rw [hel];simp [zE,List.getD_eq_getElem?_getD,List.getElem?_eq_getElem hlt]
     rw [←hel] at z0 z1 z2 z3 z4 hl4 hC4
     simp only [Int.toNat_natCast] at z0 z1 z2 z3 z4
     have HE:=zz hel2
     have FE:=zz (show zua el.f1 from F3.1 el (by rw [hel2];exact List.getElem_mem hlt))
     have KE:=zz (show k40.K w el.f1 [.int .i64 el.f1.f0,.int .i64 el.f1.f1,.int .i64 el.f1.f2,.slice A4 el.f1.f3.length c4] from k40_mk w el.f1 hl4 hC4)
     have Z0:=zz z0
     have Z1:=zz (range4 z1 z2 z3 z4)
     clear hel hel2 hl4 hC4 z0 z1 z2 z3 z4
     go_upto_region 5 with (first|((with_reducible refine zd (N:=21) rfl ?_);refine zy rfl 65 _ rfl w.heap.size 6 (cD++cM) (.slice (some ad) rs.length ccR) (cT++([.bool bw]++[.bool bf])) rfl (E.1.box 6 rfl) zq19 zq45 Tryz.underlying65 rfl ?_))
     replace E:=zz E.1.drew
     refine zfa l12Copy_ok5_1 (S:=fun w'=>w'.heap[g]?=some (.cells ((dD++(dM++([.slice Av xs.length cv]++(dT++([.bool bw]++[.bool bf]))))):List Value).toArray 67 (0,0))∧w'.heap[w.heap.size]?=some (.cells (cs:List Value).toArray 67 (0,0))∧w'.cell? (ad.add (i*5))=some (.int .i64 el.f0)∧w'.rangeAt (ad.add (i*5)).block ((ad.add (i*5)).off+1) [.int .i64 el.f1.f0,.int .i64 el.f1.f1,.int .i64 el.f1.f2,.slice A4 el.f1.f3.length c4]∧True) zq13 (fun _ _ _ _ h=>h) ⟨(E.1.box 1 rfl),(E.1.box 6 rfl),(E.1.cell Z0.1),(E.1.range Z1.1),trivial⟩ (fun hHeld=> ?_)
     generalize hq:World.drew _=w55_ at hHeld ⊢;replace E:=E.1.to hq;clear hq
     (refine zM (v:= ?_) (a':= ?_) rfl rfl (Or.inl ⟨zq22,zq12⟩) zq2 ?_)
     refine zL (a':= ?_) rfl rfl zq22 65 _ rfl g 6 (dD++dM) (.slice Av xs.length cv) (dT++([.bool bw]++[.bool bf])) _ rfl (fun w' hs=>hs.1) zq6 (by simp only [List.length_append,List.length_cons,List.length_nil,LdD.1,LdM.1]) Tryz.underlying65 rfl zq2 ?_
     (refine zM (v:= ?_) (a':= ?_) rfl rfl (Or.inl ⟨zq22,zq12⟩) zq2 ?_)
     refine zL (a':= ?_) rfl rfl zq22 65 _ rfl w.heap.size 6 (cD++cM) (.slice (some ad) rs.length ccR) (cT++([.bool bw]++[.bool bf])) _ rfl (fun w' hs=>hs.2.1) zq19 zq45 Tryz.underlying65 rfl zq2 ?_
     iterate 3 (refine zM (v:= ?_) (a':= ?_) rfl rfl (Or.inl ⟨zq22,zq12⟩) zq2 ?_)
     refine tre_loadat (a':= ?_) rfl rfl zq22 3 _ rfl (ad.add (i*5)) (.int .i64 el.f0) _ (by first|rfl|(simp;rfl)) (fun w' hs=>hs.2.2.1) Tryz.underlying3 rfl zq2 ?_
     (refine zM (v:= ?_) (a':= ?_) rfl rfl (Or.inl ⟨zq22,zq12⟩) zq2 ?_)
     refine zL (a':= ?_) rfl rfl zq22 65 _ rfl w.heap.size 6 (cD++cM) (.slice (some ad) rs.length ccR) (cT++([.bool bw]++[.bool bf])) _ rfl (fun w' hs=>hs.2.1) zq19 zq45 Tryz.underlying65 rfl zq2 ?_
     iterate 3 (refine zM (v:= ?_) (a':= ?_) rfl rfl (Or.inl ⟨zq22,zq12⟩) zq2 ?_)
     refine tre_loadrange (a':= ?_) rfl rfl zq22 40 _ rfl (ad.add (i*5)).block ((ad.add (i*5)).off+1) [.int .i64 el.f1.f0,.int .i64 el.f1.f1,.int .i64 el.f1.f2,.slice A4 el.f1.f3.length c4] _ (by first|rfl|(simp;rfl)) (fun w' hs=>hs.2.2.2.1) Tryz.underlying40 rfl zq13 zq2 ?_
     refine zS rfl (zC rfl Tryz.func34 zq13 rfl #[.agg [.int .i64 el.f1.f0,.int .i64 el.f1.f1,.int .i64 el.f1.f2,.slice A4 el.f1.f3.length c4].toArray] zq22 rfl zq14 ?_)
     with_reducible refine (zkb el.f1 el.f1 _ (E.1.K KE.1) ⟨rfl,FE.1⟩).mono ?_
     rintro e w59_ ⟨d9,rfl,M9,hb⟩
     have q:=E.1.made4 O.1 4 rfl M9 hb;clear O E M9 hb;obtain ⟨n12,m19,L13,Q9,O,E⟩:=q
     refine ⟨_,rfl,⟨(E.1.box 2 rfl),(E.1.box 7 rfl),(E.1.cell Z0.1),(E.1.range Z1.1),trivial⟩,(fun hHeld=> ?_)⟩
     refine zw (a':= ?_) zq2 ?_
     obtain ⟨c15,E5,L14,Oc63_⟩:=lump_ ([.int .i64 el.f0]++d9) 5 (zq94 L13.1) (zH (zPa rfl) Q9.1)
     refine zM (v:= .agg c15.toArray) (a':= ?_) rfl rfl (Or.inl ⟨zq22,zvb 135 _ rfl Z135 (fun w=>by kernel_rfl) _ Tryz.underlying135 #[(0,1),(1,4)] (fun w=>by kernel_rfl) [(0,.int .i64 el.f0),(1,.agg d9.toArray)] zq71 c15 (by rw [E5.1];refine zaa (new:=[.int .i64 el.f0]) (pre:=[]) (mid:=[.int .i64 0]) (post:=[.int .i64 0,.int .i64 0,.int .i64 0,.slice none 0 0]) rfl zq6 (rfl) (rfl) ?_;refine zaa (new:=d9) (pre:=[.int .i64 el.f0]) (mid:=[.int .i64 0,.int .i64 0,.int .i64 0,.slice none 0 0]) (post:=[]) rfl zq6 (by show some (1,4)=some (_,_);rw [show (d9:List Value).length=4 from L13.1];first|done|rfl) (zq40 L13.1) ?_;first|rfl|simp only [Instr.fill,aA,aN,aL])⟩) ?_ ?_;rotate_left;(· show Act.put _ (some _) _=_;simp only [Act.put,s_A,s_0,s_1,zKa];try rfl)
     refine zS rfl (ev1_lit1 rfl zq22 65 135 _ rfl Tryz.underlying65 Z135 zq13 zq13 zq13 zq31 zq31 c15 rfl L14.1 ?_)
     refine ⟨⟨zh (E.1.box 2 rfl) _,zh (E.1.box 7 rfl) _,(E.1.alloc _ _ rfl).cell Z0.1,(E.1.alloc _ _ rfl).range Z1.1,trivial⟩,(fun hHeld=> ?_)⟩
     refine zw (a':= ?_) zq2 ?_
     refine zS rfl (ev1_append E.1 rfl zq22 _ _ 65 135 (.agg #[.int .i64 0,.int .i64 0,.int .i64 0,.int .i64 0,.slice none 0 0]) 56 rfl k135 Tryz.underlying65 info135 rfl zq31 zq31 1 rfl (p:=el) (fun k=>False∨(True∧Iv n12 m19 k)) (by rw [E5.1];exact el_M (E.1.made 0 rfl)) (fun k hk=>by have o:=O.1;simp only [Iv,false_or,true_and] at hk;omega) zq135 zq135 rfl rfl (by have:=FL.1;have h2:=List.length_take_le i rs;rw [←HX.1] at h2;omega) (by have o:=O.1;simp only [Off2,Off2.Off2A,Fct.box,Fct.made];and_intros<;>first|trivial|omega) (fun v_ w65_ m20 hm hE=> ?_))
     have O2:=zz hm
     replace E:=zz hE
     clear hm hE
     obtain ⟨Ab,cb,hvb,-⟩:=E.1.mk_ 1 rfl
     injection hvb with hvb
     subst hvb
     obtain ⟨nn,hnn⟩:∃m,m=(xs++[el]).length:=⟨_,rfl⟩
     simp only [←hnn] at E ⊢
     refine ⟨⟨(E.1.box 2 rfl),(E.1.box 7 rfl),(E.1.cell Z0.1),(E.1.range Z1.1),trivial⟩,(fun hHeld=> ?_)⟩
     refine zw (a':= ?_) zq2 ?_
     replace O:=zz (And.intro O2.1 O.1)
     (refine zM (v:= ?_) (a':= ?_) rfl rfl (Or.inl ⟨zq22,zq12⟩) zq2 ?_)
     refine tre_l rfl (ev1_storecell rfl zq22 65 _ _ rfl g 6 (.slice Ab nn cb) (.slice Av xs.length cv) (dD++dM) (dT++([.bool bw]++[.bool bf])) rfl rfl (E.1.box 2 rfl) zq6 (by simp only [List.length_append,List.length_cons,List.length_nil,LdD.1,LdM.1]) zq13 rfl rfl (fun W66_ hp hn=> ?_))
     replace E:=E.1.put2 2 hp hn zq7;clear hp hn
     refine zX ?_
     clear hHeld
     go_wp2
     go_roundg k1
     case measure=>omega
     have hxs:rs.take (i+1)=xs++[el]:=by rw [List.take_succ_eq_append_getElem hlt,←HE.1,←HX.1]
     case rel=>exact ⟨i+1,m20,_,by rw [show wrap64 ((i:Int)+1)=((i+1:Nat):Int) by unfold wrap64;have:=FL.1;omega],⟨zq115⟩,⟨zq9⟩,⟨zq135⟩,⟨by rw [hxs];have e:=E.1.pick [(1,_),(2,_),(3,_),(4,_),(5,_),(6,_),(7,_)] ⟨rfl,rfl,rfl,rfl,rfl,rfl,rfl,trivial⟩;simp only [List.map_cons,List.map_nil,aA,aN,aL] at e ⊢;exact e⟩⟩
   ·have c1:decide ((i:Int)<(rs.length:Int))=false:=z7 zq9
    have hi:i=rs.length:=by have:=HI.1;omega
    have hx:=HX.1.symm
    rw [hi,List.take_length] at hx
    subst hx
    obtain ⟨c16,E6,L15,O5⟩:=lump_ (dD++(dM++([.slice Av rs.length cv]++(dT++([.bool bw]++[.bool bf]))))) 20 (by simp only [List.length_append,List.length_cons,List.length_nil,LdD.1,LdM.1,LdT.1]) (zH OdD.1 (zH OdM.1 (zH (zPa rfl) (zH OdT.1 (zH (zPa rfl) (zPa rfl))))))
    go_wp2_with (first|((with_reducible refine zd (N:=21) rfl ?_);refine zy rfl 65 _ rfl w.heap.size 6 (cD++cM) (.slice AR rs.length ccR) (cT++([.bool bw]++[.bool bf])) rfl (E.1.box 6 rfl) zq19 zq45 Tryz.underlying65 rfl ?_)|((with_reducible refine zd (N:=45) rfl ?_);refine zf rfl 67 _ rfl g 0 [] c16 [] _ rfl (E.1.box 1 rfl) (by rw [E6.1];first|done|rfl|(simp only [aA,aN,aL];first|done|rfl)) (rfl) Tryz.underlying67 rfl (zq24 L15.1) ?_)|((with_reducible refine zm (t:=67) (p:=2) rfl ?_);refine zn rfl 67 _ _ rfl rfl (w.heap.size+1) 0 c16 [] Z67 [] rfl rfl (E.1.box 5 rfl) zq6 (rfl) (zq40 L15.1) (zq24 L15.1) O5.1 ?_;intro W68_ hp hn;replace E:=E.1.put2 5 hp hn zq7;clear hp hn))
    have BX:=zz (show _=some (Obj.cells (c16:List Value).toArray 67 (0,0)) from by first|exact (E.1.box 5 rfl)|simpa only [aA,aN,aL] using (E.1.box 5 rfl))
    refine bodyPost_ret (zya rfl _ _ (w.heap.size+1) 67 _ _ _ rfl BX.1 Tryz.underlying67 rfl (by rw [List.size_toArray,show (c16:List Value).length=20 from L15.1];kernel_rfl)) rfl ?_
    exact ⟨_,rfl,(by rw [E6.1];exact zGb (d:=kStore) (comb (E.1.made 4 rfl) (comb (E.1.made 3 rfl) (comb (E.1.made 0 rfl) (comb (E.1.made 2 rfl) (comb Mbool Mbool (fun k h1 h2=>by have o:=O.1;(try simp only [Iv,true_and,or_false,false_or] at h1 h2)<;>omega)) (fun k h1 h2=>by have o:=O.1;(try simp only [Iv,true_and,or_false,false_or] at h1 h2)<;>omega)) (fun k h1 h2=>by have o:=O.1;(try simp only [Iv,true_and,or_false,false_or] at h1 h2)<;>omega)) (fun k h1 h2=>by have o:=O.1;(try simp only [Iv,true_and,or_false,false_or] at h1 h2)<;>omega)) (fun k h1 h2=>by have o:=O.1;(try simp only [Iv,true_and,or_false,false_or] at h1 h2)<;>omega)) (z3a _)),E.1.below⟩
def laws_heldReaderS.l0:Nat→List (S135)→Int→Int→Option (Int)
 |0,_,_,_=>none
 |k+1,x0,x1,x5=>if x5<(x0.length:Int) then (if 0≤x5 then (if ((zE x0 x5).f0)=x1 then (if ((zE x0 x5).f1.f0)=(wrap64 (x1+1)) then (if ((zE x0 x5).f1.f1)=(wrap64 ((wrap64 (x1+1))+1)) then (if ((zE x0 x5).f1.f2)=(wrap64 ((wrap64 ((wrap64 (x1+1))+1))+1)) then ((laws_heldFreeS.f k ((zE x0 x5).f1.f3) (wrap64 ((wrap64 ((wrap64 ((wrap64 (x1+1))+1))+1))+1))).bind fun t188=>(if t188<0 then (none) else (laws_heldReaderS.l0 k x0 t188 (wrap64 (x5+1))))) else (none)) else (none)) else (none)) else (none)) else (none)) else (some x1)
def laws_heldReaderS.f (k:Nat) (l0:List (S135)) (a1:Int):Option (Int):=laws_heldReaderS.l0 k l0 a1 0
theorem laws_heldReaderS.calls (k:Nat) (A0:Option Addr) (c0:Nat) (l0:List (S135)) (a1:Int) (r:Int) (w:World) (hr0:Kd.C k135 w A0 l0.length l0) (hc0:l0.length≤c0) (h:laws_heldReaderS.f k l0 a1=some r):
  Calls Tryz.prog 73 #[.slice A0 l0.length c0,.int .i64 a1] w fun e w'=>e= .returned (.int .i64 r)∧Drawn0 w w':=by
 have HR0:=zz hr0
 clear hr0 hc0
 have H:(laws_heldReaderS.l0 k l0 a1 0)=some r:=h
 clear h
 have H':=zz H
 clear H
 go_enter Tryz.func73,Tryz.ntmps73
 go_wp2
 go_loopg [1,5] k (fun kq v1 v5 w'=>∃(x0:Int) (x1:Int),v1= .int .i64 x0∧v5= .int .i64 x1∧Z0 (laws_heldReaderS.l0 kq l0 x0 x1=some r)∧Z0 (kq≤k)∧Drawn0 w w')
 case atStart=>exact ⟨(a1),(0),zq18,zq18,H',⟨z3a _⟩,zq33⟩
 case round=>
  clear H'
  obtain ⟨x0,x1,rfl,rfl,HA,HK1,⟨m1,rfl⟩⟩:=hrel
  cases gk with
  |zero=>exact absurd HA.1 (by simp [laws_heldReaderS.l0])
  |succ k1=>
   have H:=HA.1
   clear HA
   simp only [laws_heldReaderS.l0] at H
   by_cases c3:x1<(l0.length:Int)
   ·rw [if_pos c3] at H
    have c3b0:=z6 c3
    clear c3
    by_cases c4:0≤x1
    ·rw [if_pos c4] at H
     have c4b0:=z6 c4
     clear c4
     by_cases c5:((zE l0 x1).f0)=x0
     ·rw [if_pos c5] at H
      have c5b0:(((zE l0 x1).f0)==x0)=true:=beq_iff_eq.mpr c5
      have c5b1:(((zE l0 x1).f0) !=x0)=false:=bne_eq_false_iff_eq.mpr c5
      clear c5
      by_cases c6:((zE l0 x1).f1.f0)=(wrap64 (x0+1))
      ·rw [if_pos c6] at H
       have c6b0:(((zE l0 x1).f1.f0)==(wrap64 (x0+1)))=true:=beq_iff_eq.mpr c6
       have c6b1:(((zE l0 x1).f1.f0) !=(wrap64 (x0+1)))=false:=bne_eq_false_iff_eq.mpr c6
       clear c6
       by_cases c7:((zE l0 x1).f1.f1)=(wrap64 ((wrap64 (x0+1))+1))
       ·rw [if_pos c7] at H
        have c7b0:(((zE l0 x1).f1.f1)==(wrap64 ((wrap64 (x0+1))+1)))=true:=beq_iff_eq.mpr c7
        have c7b1:(((zE l0 x1).f1.f1) !=(wrap64 ((wrap64 (x0+1))+1)))=false:=bne_eq_false_iff_eq.mpr c7
        clear c7
        by_cases c8:((zE l0 x1).f1.f2)=(wrap64 ((wrap64 ((wrap64 (x0+1))+1))+1))
        ·rw [if_pos c8] at H
         have c8b0:(((zE l0 x1).f1.f2)==(wrap64 ((wrap64 ((wrap64 (x0+1))+1))+1)))=true:=beq_iff_eq.mpr c8
         have c8b1:(((zE l0 x1).f1.f2) !=(wrap64 ((wrap64 ((wrap64 (x0+1))+1))+1)))=false:=bne_eq_false_iff_eq.mpr c8
         clear c8
         replace H:=z2a H
         obtain ⟨t0,A1,H⟩:=H
         replace H:(if t0<0 then (none) else (laws_heldReaderS.l0 k1 l0 t0 (wrap64 (x1+1))))=some r:=H
         have A9:=zz A1
         clear A1
         by_cases c10:t0<0
         ·rw [if_pos c10] at H
          exact absurd H zq38
         ·rw [if_neg c10] at H
          have c10b0:=z7 c10
          clear c10
          have H':=zz H
          clear H
          have p0:0≤(x1:Int):=z8 zq21
          have q0:x1<(l0.length:Int):=z8 zq21
          obtain ⟨b0,A2,c1,e0,hx183_0,hx183_1,hx183_2,hx183_3,k0,hl183_4,hi183_4⟩:=zgc HR0.1 x1 p0 q0
          cases e0
          clear hi183_4 hl183_4
          replace p0:=eq_true p0
          replace q0:=eq_true q0
          have p1:0≤(x1:Int):=z8 zq21
          have q1:x1<(l0.length:Int):=z8 zq21
          obtain ⟨b1,A184_4,c184_4,e1,hx184_0,hx184_1,hx184_2,hx184_3,k2,hl184_4,hi184_4⟩:=zgc HR0.1 x1 p1 q1
          obtain rfl:b0=b1:=(by injection e1)
          clear hi184_4 hl184_4
          replace p1:=eq_true p1
          replace q1:=eq_true q1
          have ea_:=z6a (k0.symm.trans k2)
          injection ea_ with ea_ en_ ec_
          subst ea_
          subst ec_
          clear en_
          have p2:0≤(x1:Int):=z8 zq21
          have q2:x1<(l0.length:Int):=z8 zq21
          obtain ⟨b2,A185_4,c185_4,e2,hx185_0,hx185_1,hx185_2,hx185_3,k3,hl185_4,hi185_4⟩:=zgc HR0.1 x1 p2 q2
          obtain rfl:b0=b2:=(by injection e2)
          clear hi185_4 hl185_4
          replace p2:=eq_true p2
          replace q2:=eq_true q2
          have ea_:=z6a (k0.symm.trans k3)
          injection ea_ with ea_ en_ ec_
          subst ea_
          subst ec_
          clear en_
          have p3:0≤(x1:Int):=z8 zq21
          have q3:x1<(l0.length:Int):=z8 zq21
          obtain ⟨b3,A186_4,c186_4,e3,hx186_0,hx186_1,hx186_2,hx186_3,k4,hl186_4,hi186_4⟩:=zgc HR0.1 x1 p3 q3
          obtain rfl:b0=b3:=(by injection e3)
          clear hi186_4 hl186_4
          replace p3:=eq_true p3
          replace q3:=eq_true q3
          have ea_:=z6a (k0.symm.trans k4)
          injection ea_ with ea_ en_ ec_
          subst ea_
          subst ec_
          clear en_
          have p4:0≤(x1:Int):=z8 zq21
          have q4:x1<(l0.length:Int):=z8 zq21
          obtain ⟨b4,A187_4,c187_4,e4,hx187_0,hx187_1,hx187_2,hx187_3,k5,hl187_4,hi187_4⟩:=zgc HR0.1 x1 p4 q4
          obtain rfl:b0=b4:=(by injection e4)
          have R0:=zz hi187_4
          have C0:=zz hl187_4
          clear hi187_4 hl187_4
          replace p4:=eq_true p4
          replace q4:=eq_true q4
          have ea_:=z6a (k0.symm.trans k5)
          injection ea_ with ea_ en_ ec_
          subst ea_
          subst ec_
          clear en_
          go_wp2_with (first|((with_reducible refine zr (f:=58) rfl ?_);refine zN (some 58) rfl rfl Tryz.func58 zq13 rfl #[.slice A2 ((zE l0 x1).f1.f3).length c1,.int .i64 (wrap64 ((wrap64 ((wrap64 ((wrap64 (x0+1))+1))+1))+1))] rfl zq8 ?_;(with_reducible refine (laws_heldFreeS.calls k1 _ _ ((zE l0 x1).f1.f3) (wrap64 ((wrap64 ((wrap64 ((wrap64 (x0+1))+1))+1))+1)) t0 _ ?side1 ?side2 A9.1).mono ?_);(case side1=>repeat (first|exact R0.1|(with_reducible refine Kd.C_alloc ?_ _)|(with_reducible refine Kd.C_drewN ?_ _)|(with_reducible refine Kd.C_drew ?_)));(case side2=>exact C0.1);rintro e w' ⟨rfl,⟨nd,rfl⟩⟩;refine ⟨_,rfl,?_⟩))
          exact zq216
        ·rw [if_neg c8] at H
         exact absurd H zq38
       ·exact zq176
      ·exact zq201
     ·exact zq155
    ·exact zq161
   ·exact zq154
theorem kDiskL_lit {w:World} {l0:List ByteArray} {l1:List S156} {a b:Value} (h0:(Own.srow 9 Kd.string).K w l0 [a]) (h1:(Own.srow 156 k156).K w l1 [b]):kDiskL.K w (l0,l1) [a,b]:=Kpair h0 h1
theorem made_of_R {α:Type} {d:Kd α} (hE:d.E=[]) {e:Nat} {w w':World} {v:Value} {xs:List α} {ok:Nat→Prop} (h:d.R e w' w.heap.size ok v xs):(Own.srow e d).M w' w.heap.size (Fr w w') xs [v]:=
 (Own.srow e d).M_mono (fun k hk=>⟨Kd.R_base h k hk.symm,Kd.R_lt h k hk.symm⟩) (Own.srow_of_R hE h)
theorem zkc (z:(List ByteArray×List S110)) {cs:List Value} (w:World) (h:kDisk.K w z cs) (hl:z.1.length≤2000000∧z.2.length≤2000000):
  Calls Tryz.prog 46 #[.agg cs.toArray] w fun e w'=>∃ds:List Value,e= .returned (.agg ds.toArray)∧kDisk.M w' w.heap.size (Fr w w') z ds∧Below w.heap.size w w':=by
 obtain ⟨l0,l1⟩:=z
 obtain ⟨A0,c0,A1,c1,rfl,m0,r0,m1,r1⟩:=zza h
 refine (impl_cloneDisk.calls A0 c0 l0 A1 c1 l1 l0 l1 w r0 m0 r1 m1 (by
  have h1:l0.length≤2000000:=hl.1
  have h2:l1.length≤2000000:=hl.2
  unfold impl_cloneDisk.f slices_Clone_string_string.f impl_Put.f
  rw [if_pos zq9,if_pos zq9]
  rfl)).mono ?_
 rintro e w' ⟨v0,v1,rfl,R0,R1,hb⟩
 have T0:=Own.R_tightB rfl R0
 have T1:=Own.R_tightB rfl R1
 exact ⟨[v0,v1],rfl,zub T0.1 T1.1 T0.2.1 T1.2.1 (Own.types_ne T0.2.2 T1.2.2 zq31),hb⟩
theorem zsb (z:List Int) {v:Value} (w:World) (h:(Own.arow 3 (Kd.int .i64)).K w z [v]) (hl:z.length≤2000000):
  Calls Tryz.prog 87 #[v] w fun e w'=>∃u:Value,e= .returned u∧(Own.srow 3 (Kd.int .i64)).M w' w.heap.size (Fr w w') z [u]∧Below w.heap.size w w':=by
 obtain ⟨A,c,hv,m,r⟩:=h
 injection hv with hv
 subst hv
 refine (slices_Clone_int_int.calls A c z z w r m (by unfold slices_Clone_int_int.f;rw [if_pos zq9])).mono ?_
 rintro e w' ⟨u,rfl,R,hb⟩
 exact ⟨u,rfl,made_of_R rfl R,hb⟩
def cloneWork_c_T1:Bool×List (List Nat×List Nat):=(true,[([],[]),([0],[0]),([1],[1]),([],[]),([3],[3]),([],[]),([5],[5]),([6,2],[6]),([],[]),([8],[8]),([9,7],[9]),([],[]),([11],[11]),([12,10],[12]),([2,4,7,10,13],[2,4,7,10,13]),([14,13,0,1,2,3,4,5,6,7,8,9,10,11,12,13,14],[14])])
def cloneWork_c_B1:List Nat:=[0,1,3,0,8,0,32,103,0,256,999,0,2048,8167,16383,32767]
theorem cloneWork_c_ok1_0:regT (zFa Tryz.f133 1) cloneWork_c_T1 cloneWork_c_B1 [] (.p 0 (.t 1 (.p 3 (.t 4 (.p 5 (.t 6 (.p 8 (.t 9 (.p 11 (.t 12 (.e 2 (.e 7 (.e 10 (.e 13 (.p 14 (.e 15 .d))))))))))))))))=true:=zq13
theorem cloneWork_c (z:(List ByteArray×List S110×Int×List Int×List Int×List Int)) {cs:List Value} (w:World) (h:kWork.K w z cs) (hl:((z.1).length≤2000000∧(z.2.1).length≤2000000)∧(z.2.2.2.1).length≤2000000∧(z.2.2.2.2.1).length≤2000000∧(z.2.2.2.2.2).length≤2000000):
  Calls Tryz.prog 133 #[.agg cs.toArray] w fun e w'=>∃ds:List Value,e= .returned (.agg ds.toArray)∧kWork.M w' w.heap.size (Fr w w') z ds∧Below w.heap.size w w':=by
 have hwp:=h
 obtain ⟨cp0,_,rfl,hp0,cp1,_,rfl,hp1,cp2,_,rfl,hp2,cp3,_,rfl,hp3,cp4,cp5,rfl,hp4,hp5⟩:=h
 have gp0:=hp0;obtain ⟨A_,k_,rfl,-,-⟩:=hp0;obtain ⟨vp0,hv⟩:∃v,v=Value.slice A_ (z.1).length k_:=⟨_,rfl⟩;rw [←hv] at gp0 hwp ⊢;clear hv
 have gp1:=hp1;obtain ⟨A_,k_,rfl,-,-⟩:=hp1;obtain ⟨vp1,hv⟩:∃v,v=Value.slice A_ (z.2.1).length k_:=⟨_,rfl⟩;rw [←hv] at gp1 hwp ⊢;clear hv
 obtain rfl:cp2=[.int .i64 z.2.2.1]:=hp2
 have gp3:=hp3;obtain ⟨A_,k_,rfl,-,-⟩:=hp3;obtain ⟨vp3,hv⟩:∃v,v=Value.slice A_ (z.2.2.2.1).length k_:=⟨_,rfl⟩;rw [←hv] at gp3 hwp ⊢;clear hv
 have gp4:=hp4;obtain ⟨A_,k_,rfl,-,-⟩:=hp4;obtain ⟨vp4,hv⟩:∃v,v=Value.slice A_ (z.2.2.2.2.1).length k_:=⟨_,rfl⟩;rw [←hv] at gp4 hwp ⊢;clear hv
 have gp5:=hp5;obtain ⟨A_,k_,rfl,-,-⟩:=hp5;obtain ⟨vp5,hv⟩:∃v,v=Value.slice A_ (z.2.2.2.2.2).length k_:=⟨_,rfl⟩;rw [←hv] at gp5 hwp ⊢;clear hv
 obtain ⟨ep,he⟩:∃cs,cs=[vp0]++([vp1]++([.int .i64 z.2.2.1]++([vp3]++([vp4]++([vp5]))))):=⟨_,rfl⟩;rw [←he] at hwp ⊢;have Ep:=zz he;clear he hwp
 have Kp0:=zz gp0;clear gp0
 have Kp1:=zz gp1;clear gp1
 have Kp3:=zz gp3;clear gp3
 have Kp4:=zz gp4;clear gp4
 have Kp5:=zz gp5;clear gp5
 have F0:=zz hl.1;have F3:=zz hl.2.1;have F4:=zz hl.2.2.1;have F5:=zz hl.2.2.2;clear hl
 have O:=zz (z3a w.heap.size)
 have E:=zz (Env.start w)
 go_enter Tryz.func133,Tryz.ntmps133
 go_upto_region 1 with (fail)
 replace O:=zz (And.intro E.1.le O.1)
 replace E:=zz (E.1.alloc ep 44 (g:=w.heap.size) rfl)
 replace E:=zz (E.1.alloc Z44 44 (g:=(w.heap.size+1)) zq38)
 replace E:=zz E.1.drew
 refine zfa cloneWork_c_ok1_0 (S:=fun w'=>w'.heap[w.heap.size]?=some (.cells (ep:List Value).toArray 44 (0,0))∧True) zq13 (fun _ _ _ _ h=>h) ⟨(E.1.box 1 rfl),trivial⟩ (fun hHeld=> ?_)
 generalize hq:World.drew _=w1_ at hHeld ⊢;replace E:=E.1.to hq;clear hq
 (refine zM (v:= ?_) (a':= ?_) rfl rfl (Or.inl ⟨zq22,zq12⟩) zq2 ?_)
 refine zB (a':= ?_) rfl rfl zq22 37 _ rfl w.heap.size 0 [] [vp0,vp1] ([.int .i64 z.2.2.1]++([vp3]++([vp4]++[vp5]))) _ rfl (fun w' hs=>hs.1) zq26 (rfl) Tryz.underlying37 rfl zq13 zq2 ?_
 (refine zM (v:= ?_) (a':= ?_) rfl rfl (Or.inl ⟨zq22,zq12⟩) zq2 ?_)
 refine zL (a':= ?_) rfl rfl zq22 3 _ rfl w.heap.size 2 ([vp0]++[vp1]) (.int .i64 z.2.2.1) ([vp3]++([vp4]++[vp5])) _ rfl (fun w' hs=>hs.1) zq26 (rfl) Tryz.underlying3 rfl zq2 ?_
 (refine zM (v:= ?_) (a':= ?_) rfl rfl (Or.inl ⟨zq22,zq12⟩) zq2 ?_)
 refine zL (a':= ?_) rfl rfl zq22 29 _ rfl w.heap.size 3 ([vp0]++([vp1]++[.int .i64 z.2.2.1])) (vp3) ([vp4]++[vp5]) _ rfl (fun w' hs=>hs.1) zq26 (rfl) Tryz.underlying29 rfl zq2 ?_
 (refine zM (v:= ?_) (a':= ?_) rfl rfl (Or.inl ⟨zq22,zq12⟩) zq2 ?_)
 refine zL (a':= ?_) rfl rfl zq22 29 _ rfl w.heap.size 4 ([vp0]++([vp1]++([.int .i64 z.2.2.1]++[vp3]))) (vp4) [vp5] _ rfl (fun w' hs=>hs.1) zq26 (rfl) Tryz.underlying29 rfl zq2 ?_
 (refine zM (v:= ?_) (a':= ?_) rfl rfl (Or.inl ⟨zq22,zq12⟩) zq2 ?_)
 refine zL (a':= ?_) rfl rfl zq22 29 _ rfl w.heap.size 5 ([vp0]++([vp1]++([.int .i64 z.2.2.1]++([vp3]++[vp4])))) (vp5) [] _ rfl (fun w' hs=>hs.1) zq26 (rfl) Tryz.underlying29 rfl zq2 ?_
 refine zS rfl (zC rfl Tryz.func46 zq13 rfl #[.agg [vp0,vp1].toArray] zq22 rfl zq14 ?_)
 with_reducible refine (zkc (z.1,z.2.1) _ (zsa (E.1.K Kp0.1) (E.1.K Kp1.1)) F0.1).mono ?_
 rintro e w7_ ⟨d0,rfl,M0,hb⟩
 have q:=E.1.made4 O.1 2 rfl M0 hb;clear O E M0 hb;obtain ⟨n9_,m10_,L0,Q0,O,E⟩:=q
 refine ⟨_,rfl,⟨(E.1.box 2 rfl),trivial⟩,(fun hHeld=> ?_)⟩
 refine zw (a':= ?_) zq2 ?_
 refine zS rfl (zC rfl Tryz.func87 zq13 rfl #[vp3] zq22 rfl zq14 ?_)
 with_reducible refine (zsb z.2.2.2.1 _ (E.1.K Kp3.1) F3.1).mono ?_
 rintro e w11_ ⟨d12_,rfl,M1,hb⟩
 have q:=E.1.made4 O.1 1 rfl M1 hb;clear O E M1 hb;obtain ⟨n13_,m14_,Ld12_,Od12_,O,E⟩:=q
 obtain ⟨B0,e0,hv,-⟩:=E.1.mk_ 0 rfl;injection hv with hv;subst hv
 refine ⟨_,rfl,⟨(E.1.box 3 rfl),trivial⟩,(fun hHeld=> ?_)⟩
 refine zw (a':= ?_) zq2 ?_
 refine zS rfl (zC rfl Tryz.func87 zq13 rfl #[vp4] zq22 rfl zq14 ?_)
 with_reducible refine (zsb z.2.2.2.2.1 _ (E.1.K Kp4.1) F4.1).mono ?_
 rintro e w17_ ⟨d18_,rfl,M2,hb⟩
 have q:=E.1.made4 O.1 1 rfl M2 hb;clear O E M2 hb;obtain ⟨n19_,m20_,Ld18_,Od18_,O,E⟩:=q
 obtain ⟨B2,e1,hv,-⟩:=E.1.mk_ 0 rfl;injection hv with hv;subst hv
 refine ⟨_,rfl,⟨(E.1.box 4 rfl),trivial⟩,(fun hHeld=> ?_)⟩
 refine zw (a':= ?_) zq2 ?_
 refine zS rfl (zC rfl Tryz.func87 zq13 rfl #[vp5] zq22 rfl zq14 ?_)
 with_reducible refine (zsb z.2.2.2.2.2 _ (E.1.K Kp5.1) F5.1).mono ?_
 rintro e w23_ ⟨d24_,rfl,M3,hb⟩
 have q:=E.1.made4 O.1 1 rfl M3 hb;clear O E M3 hb;obtain ⟨n25_,m26_,Ld24_,Od24_,O,E⟩:=q
 obtain ⟨B4,e2,hv,-⟩:=E.1.mk_ 0 rfl;injection hv with hv;subst hv
 refine ⟨_,rfl,⟨(E.1.box 5 rfl),trivial⟩,(fun hHeld=> ?_)⟩
 refine zw (a':= ?_) zq2 ?_
 obtain ⟨c0,E0,L1,O0⟩:=lump_ (d0++([.int .i64 z.2.2.1]++([.slice B0 z.2.2.2.1.length e0]++([.slice B2 z.2.2.2.2.1.length e1]++[.slice B4 z.2.2.2.2.2.length e2])))) 6 (zq94 L0.1) (zH Q0.1 (zH (zPa rfl) (zH (zPa rfl) (zH (zPa rfl) (zPa rfl)))))
 refine zM (v:= .agg c0.toArray) (a':= ?_) rfl rfl (Or.inl ⟨zq22,zvb 44 _ rfl Z44 (fun w=>by kernel_rfl) _ Tryz.underlying44 #[(0,2),(2,1),(3,1),(4,1),(5,1)] (fun w=>by kernel_rfl) [(0,.agg d0.toArray),(1,.int .i64 z.2.2.1),(2,.slice B0 z.2.2.2.1.length e0),(3,.slice B2 z.2.2.2.2.1.length e1),(4,.slice B4 z.2.2.2.2.2.length e2)] zq71 c0 (by rw [E0.1];refine zaa (new:=d0) (pre:=[]) (mid:=[.slice none 0 0,.slice none 0 0]) (post:=[.int .i64 0,.slice none 0 0,.slice none 0 0,.slice none 0 0]) rfl zq6 (zq101 L0.1) (zq40 L0.1) ?_;refine zaa (new:=[.int .i64 z.2.2.1]) (pre:=d0) (mid:=[.int .i64 0]) (post:=[.slice none 0 0,.slice none 0 0,.slice none 0 0]) rfl zq6 (by show some (2,1)=some (_,_);rw [show (d0:List Value).length=2 from L0.1];first|done|rfl) (rfl) ?_;refine zaa (new:=[.slice B0 z.2.2.2.1.length e0]) (pre:=(d0++[.int .i64 z.2.2.1])) (mid:=[.slice none 0 0]) (post:=[.slice none 0 0,.slice none 0 0]) rfl zq6 (by show some (3,1)=some (_,_);rw [show ((d0++[.int .i64 z.2.2.1]):List Value).length=3 from by simp only [List.length_append,List.length_cons,List.length_nil,L0.1]];first|done|rfl) (rfl) ?_;refine zaa (new:=[.slice B2 z.2.2.2.2.1.length e1]) (pre:=(d0++([.int .i64 z.2.2.1]++[.slice B0 z.2.2.2.1.length e0]))) (mid:=[.slice none 0 0]) (post:=[.slice none 0 0]) rfl zq6 (by show some (4,1)=some (_,_);rw [show ((d0++([.int .i64 z.2.2.1]++[.slice B0 z.2.2.2.1.length e0])):List Value).length=4 from by simp only [List.length_append,List.length_cons,List.length_nil,L0.1]];first|done|rfl) (rfl) ?_;refine zaa (new:=[.slice B4 z.2.2.2.2.2.length e2]) (pre:=(d0++([.int .i64 z.2.2.1]++([.slice B0 z.2.2.2.1.length e0]++[.slice B2 z.2.2.2.2.1.length e1])))) (mid:=[.slice none 0 0]) (post:=[]) rfl zq6 (by show some (5,1)=some (_,_);rw [show ((d0++([.int .i64 z.2.2.1]++([.slice B0 z.2.2.2.1.length e0]++[.slice B2 z.2.2.2.2.1.length e1]))):List Value).length=5 from by simp only [List.length_append,List.length_cons,List.length_nil,L0.1]];first|done|rfl) (rfl) ?_;first|rfl|simp only [Instr.fill,aA,aN,aL])⟩) ?_ ?_;rotate_left;(· show Act.put _ (some _) _=_;simp only [Act.put,s_A,s_0,s_1,zKa];try rfl)
 refine zS rfl (zA rfl zq22 44 _ _ rfl (w.heap.size+1) 0 c0 [] Z44 [] rfl rfl (E.1.box 4 rfl) zq6 (rfl) (zq40 L1.1) (zq24 L1.1) O0.1 (fun W30_ hp hn=> ?_))
 replace E:=E.1.put2 4 hp hn zq7;clear hp hn
 refine ⟨⟨(E.1.box 5 rfl),trivial⟩,(fun hHeld=> ?_)⟩
 refine zX ?_
 clear hHeld
 go_wp2_with fail
 have BX:=zz (show _=some (Obj.cells (c0:List Value).toArray 44 (0,0)) from by first|exact (E.1.box 4 rfl)|simpa only [aA,aN,aL] using (E.1.box 4 rfl))
 refine bodyPost_ret (zya rfl _ _ (w.heap.size+1) 44 _ _ _ rfl BX.1 Tryz.underlying44 rfl (by rw [List.size_toArray,show (c0:List Value).length=6 from L1.1];kernel_rfl)) rfl ?_
 exact ⟨_,rfl,(zq54 E0.1),E.1.below⟩
theorem eqInts_c (k:Nat) (z:List Int) {v0:Value} {v1:Value} (w:World) (h0:(Own.arow 3 (Kd.int .i64)).K w z [v0]) (h1:(Own.arow 3 (Kd.int .i64)).K w z [v1]) (hf:laws_eqIntS.f k z z=some true):
  Calls Tryz.prog 99 #[v0,v1] w fun e w'=>e= .returned (.bool true)∧Below w.heap.size w w':=by
 obtain ⟨A0,c0,hv,m0,r0⟩:=h0
 injection hv with hv
 subst hv
 obtain ⟨A1,c1,hv,m1,r1⟩:=h1
 injection hv with hv
 subst hv
 refine (laws_eqIntS.calls k A0 c0 z A1 c1 z true w r0 m0 r1 m1 hf).mono ?_
 rintro e w' ⟨he,hb⟩
 exact ⟨he,by first|exact hb|exact hb.below⟩
theorem eqReaders_c (k:Nat) (z:List S135) {v0:Value} {v1:Value} (w:World) (h0:(Own.srow 135 k135).K w z [v0]) (h1:(Own.srow 135 k135).K w z [v1]) (hf:laws_eqReaderS.f k z z=some true):
  Calls Tryz.prog 71 #[v0,v1] w fun e w'=>e= .returned (.bool true)∧Below w.heap.size w w':=by
 obtain ⟨A0,c0,hv,m0,r0⟩:=h0
 injection hv with hv
 subst hv
 obtain ⟨A1,c1,hv,m1,r1⟩:=h1
 injection hv with hv
 subst hv
 refine (laws_eqReaderS.calls k A0 c0 z A1 c1 z true w r0 m0 r1 m1 hf).mono ?_
 rintro e w' ⟨he,hb⟩
 exact ⟨he,by first|exact hb|exact hb.below⟩
theorem heldInts_c (k:Nat) (z:List Int) (a r:Int) {v0:Value} (w:World) (h0:(Own.arow 3 (Kd.int .i64)).K w z [v0]) (hf:laws_heldIntS.f k z a=some r):
  Calls Tryz.prog 102 #[v0,.int .i64 a] w fun e w'=>e= .returned (.int .i64 r)∧Below w.heap.size w w':=by
 obtain ⟨A0,c0,hv,m0,r0⟩:=h0
 injection hv with hv
 subst hv
 refine (laws_heldIntS.calls k A0 c0 z a r w r0 m0 hf).mono ?_
 rintro e w' ⟨he,hb⟩
 exact ⟨he,by first|exact hb|exact hb.below⟩
theorem heldReaders_c (k:Nat) (z:List S135) (a r:Int) {v0:Value} (w:World) (h0:(Own.srow 135 k135).K w z [v0]) (hf:laws_heldReaderS.f k z a=some r):
  Calls Tryz.prog 73 #[v0,.int .i64 a] w fun e w'=>e= .returned (.int .i64 r)∧Below w.heap.size w w':=by
 obtain ⟨A0,c0,hv,m0,r0⟩:=h0
 injection hv with hv
 subst hv
 refine (laws_heldReaderS.calls k A0 c0 z a r w r0 m0 hf).mono ?_
 rintro e w' ⟨he,hb⟩
 exact ⟨he,by first|exact hb|exact hb.below⟩
theorem toInts_c (k:Nat) (z:List Int) (r:List Int) {v0:Value} (w:World) (h0:(Own.arow 3 (Kd.int .i64)).K w z [v0]) (hf:laws_toIntS.f k z=some r):
  Calls Tryz.prog 85 #[v0] w fun e w'=>∃u:Value,e= .returned u∧(Own.srow 3 (Kd.int .i64)).M w' w.heap.size (Fr w w') r [u]∧Below w.heap.size w w':=by
 obtain ⟨A0,c0,hv,m0,r0⟩:=h0
 injection hv with hv
 subst hv
 refine (laws_toIntS.calls k A0 c0 z r w r0 m0 hf).mono ?_
 rintro e w' ⟨u,rfl,R,hb⟩
 exact ⟨u,rfl,made_of_R rfl R,hb⟩
theorem toDisk_c (k:Nat) (a:(List ByteArray×List S156)) (z:(List ByteArray×List S110)) {cs:List Value} (w:World) (h:kDiskL.K w a cs) (hf:laws_toDisk.f k a.1 a.2=some (z.1,z.2)):
 Calls Tryz.prog 66 #[.agg cs.toArray] w fun e w'=>∃ds:List Value,e= .returned (.agg ds.toArray)∧kDisk.M w' w.heap.size (Fr w w') z ds∧Below w.heap.size w w':=toDisk_o k a.1 a.2 z.1 z.2 w h hf
theorem toReaders_c (k:Nat) (l0:List (S132)) (r:List (S135)) {v:Value} (w:World) (h:(Own.srow 132 k132).K w l0 [v]) (hf:laws_toReaderS.f k l0=some r):
  Calls Tryz.prog 67 #[v] w fun e w'=>∃u:Value,e= .returned u∧(Own.srow 135 k135).M w' w.heap.size (Fr w w') r [u]∧Below w.heap.size w w':=by
 refine (toReaders_o k l0 r w h hf).mono ?_
 rintro e w' ⟨u,rfl,R,hb⟩
 exact ⟨u,rfl,⟨_,rfl,R⟩,hb⟩
def eqDisk_c_f (k:Nat) (z0:(List ByteArray×List S110)) (z1:(List ByteArray×List S110)):Option Bool:=laws_eqDisk.f k z0.1 z0.2 z1.1 z1.2
theorem eqDisk_c (k:Nat) (z0:(List ByteArray×List S110)) {cs0:List Value} (z1:(List ByteArray×List S110)) {cs1:List Value} (r:Bool) (w:World) (h0:kDisk.K w z0 cs0) (h1:kDisk.K w z1 cs1) (hf:eqDisk_c_f k z0 z1=some r):
  Calls Tryz.prog 10 #[.agg cs0.toArray,.agg cs1.toArray] w fun e w'=>e= .returned (.bool r)∧Below w.heap.size w w':=by
 obtain ⟨p0,q0⟩:=z0
 obtain ⟨A0,c0,A1,c1,rfl,m10,r_00,m11,r_01⟩:=zza h0
 obtain ⟨p1,q1⟩:=z1
 obtain ⟨A2,c11,A4,c12,rfl,m12,r_10,m13,r_11⟩:=zza h1
 exact laws_eqDisk.calls k A0 c0 p0 A1 c1 q0 A2 c11 p1 A4 c12 q1 r w r_00 m10 r_01 m11 r_10 m12 r_11 m13 hf
def zKb (k:Nat) (z0:(List ByteArray×List S110)) (a:Int):Option Int:=laws_heldDisk.f k z0.1 z0.2 a
theorem heldDisk_c (k:Nat) (z0:(List ByteArray×List S110)) {cs0:List Value} (a:Int) (r:Int) (w:World) (h0:kDisk.K w z0 cs0) (hf:zKb k z0 a=some r):
  Calls Tryz.prog 16 #[.agg cs0.toArray,.int .i64 a] w fun e w'=>e= .returned (.int .i64 r)∧Below w.heap.size w w':=by
 obtain ⟨p0,q0⟩:=z0
 obtain ⟨A0,c0,A1,c1,rfl,m10,r_00,m11,r_01⟩:=zza h0
 exact laws_heldDisk.calls k A0 c0 p0 A1 c1 q0 a r w r_00 m10 r_01 m11 hf
def eqMeta_c_f (k:Nat) (z0:S40) (z1:S40):Option Bool:=laws_eqMeta.f k z0.f0 z0.f1 z0.f2 z0.f3 z1.f0 z1.f1 z1.f2 z1.f3
theorem eqMeta_c (k:Nat) (z0:S40) {cs0:List Value} (z1:S40) {cs1:List Value} (r:Bool) (w:World) (h0:k40.K w z0 cs0) (h1:k40.K w z1 cs1) (hf:eqMeta_c_f k z0 z1=some r):
  Calls Tryz.prog 11 #[.agg cs0.toArray,.agg cs1.toArray] w fun e w'=>e= .returned (.bool r)∧Below w.heap.size w w':=by
 obtain ⟨x0,rfl⟩:∃x,x=z0:=⟨_,rfl⟩
 obtain ⟨A0,c0,rfl,m10,r_0⟩:=zEa h0
 obtain ⟨x1,rfl⟩:∃x,x=z1:=⟨_,rfl⟩
 obtain ⟨A1,c1,rfl,m11,r_1⟩:=zEa h1
 exact laws_eqMeta.calls k x0.f0 x0.f1 x0.f2 A0 c0 x0.f3 x1.f0 x1.f1 x1.f2 A1 c1 x1.f3 r w r_0 m10 r_1 m11 hf
def zwb (k:Nat) (z0:S40) (a:Int):Option Int:=laws_heldMeta.f k z0.f0 z0.f1 z0.f2 z0.f3 a
theorem heldMeta_c (k:Nat) (z0:S40) {cs0:List Value} (a:Int) (r:Int) (w:World) (h0:k40.K w z0 cs0) (hf:zwb k z0 a=some r):
  Calls Tryz.prog 17 #[.agg cs0.toArray,.int .i64 a] w fun e w'=>e= .returned (.int .i64 r)∧Below w.heap.size w w':=by
 obtain ⟨x0,rfl⟩:∃x,x=z0:=⟨_,rfl⟩
 obtain ⟨A0,c0,rfl,m10,r_0⟩:=zEa h0
 exact laws_heldMeta.calls k x0.f0 x0.f1 x0.f2 A0 c0 x0.f3 a r w r_0 m10 hf
def EqWork (k:Nat) (z:(List ByteArray×List S110×Int×List Int×List Int×List Int)):Prop:=eqDisk_c_f k (z.1,z.2.1) (z.1,z.2.1)=some true∧laws_eqIntS.f k z.2.2.2.1 z.2.2.2.1=some true∧laws_eqIntS.f k z.2.2.2.2.1 z.2.2.2.2.1=some true∧laws_eqIntS.f k z.2.2.2.2.2 z.2.2.2.2.2=some true
theorem eqWork_c (k:Nat) (z:(List ByteArray×List S110×Int×List Int×List Int×List Int)) {cs ds:List Value} (w:World) (h:kWork.K w z cs) (h2:kWork.K w z ds) (hf:EqWork k z):
  Calls Tryz.prog 51 #[.agg cs.toArray,.agg ds.toArray] w fun e w'=>e= .returned (.bool true)∧Below w.heap.size w w':=by
 have hwp:=h
 obtain ⟨cp0,_,rfl,hp0,cp1,_,rfl,hp1,cp2,_,rfl,hp2,cp3,_,rfl,hp3,cp4,cp5,rfl,hp4,hp5⟩:=h
 have gp0:=hp0;obtain ⟨A_,k_,rfl,-,-⟩:=hp0;obtain ⟨vp0,hv⟩:∃v,v=Value.slice A_ (z.1).length k_:=⟨_,rfl⟩;rw [←hv] at gp0 hwp ⊢;clear hv
 have gp1:=hp1;obtain ⟨A_,k_,rfl,-,-⟩:=hp1;obtain ⟨vp1,hv⟩:∃v,v=Value.slice A_ (z.2.1).length k_:=⟨_,rfl⟩;rw [←hv] at gp1 hwp ⊢;clear hv
 obtain rfl:cp2=[.int .i64 z.2.2.1]:=hp2
 have gp3:=hp3;obtain ⟨A_,k_,rfl,-,-⟩:=hp3;obtain ⟨vp3,hv⟩:∃v,v=Value.slice A_ (z.2.2.2.1).length k_:=⟨_,rfl⟩;rw [←hv] at gp3 hwp ⊢;clear hv
 have gp4:=hp4;obtain ⟨A_,k_,rfl,-,-⟩:=hp4;obtain ⟨vp4,hv⟩:∃v,v=Value.slice A_ (z.2.2.2.2.1).length k_:=⟨_,rfl⟩;rw [←hv] at gp4 hwp ⊢;clear hv
 have gp5:=hp5;obtain ⟨A_,k_,rfl,-,-⟩:=hp5;obtain ⟨vp5,hv⟩:∃v,v=Value.slice A_ (z.2.2.2.2.2).length k_:=⟨_,rfl⟩;rw [←hv] at gp5 hwp ⊢;clear hv
 obtain ⟨ep,he⟩:∃cs,cs=[vp0]++([vp1]++([.int .i64 z.2.2.1]++([vp3]++([vp4]++([vp5]))))):=⟨_,rfl⟩;rw [←he] at hwp ⊢;have Ep:=zz he;clear he hwp
 have Kp0:=zz gp0;clear gp0
 have Kp1:=zz gp1;clear gp1
 have Kp3:=zz gp3;clear gp3
 have Kp4:=zz gp4;clear gp4
 have Kp5:=zz gp5;clear gp5
 have hwq:=h2
 obtain ⟨cq0,_,rfl,hq0,cq1,_,rfl,hq1,cq2,_,rfl,hq2,cq3,_,rfl,hq3,cq4,cq5,rfl,hq4,hq5⟩:=h2
 have gq0:=hq0;obtain ⟨A_,k_,rfl,-,-⟩:=hq0;obtain ⟨vq0,hv⟩:∃v,v=Value.slice A_ (z.1).length k_:=⟨_,rfl⟩;rw [←hv] at gq0 hwq ⊢;clear hv
 have gq1:=hq1;obtain ⟨A_,k_,rfl,-,-⟩:=hq1;obtain ⟨vq1,hv⟩:∃v,v=Value.slice A_ (z.2.1).length k_:=⟨_,rfl⟩;rw [←hv] at gq1 hwq ⊢;clear hv
 obtain rfl:cq2=[.int .i64 z.2.2.1]:=hq2
 have gq3:=hq3;obtain ⟨A_,k_,rfl,-,-⟩:=hq3;obtain ⟨vq3,hv⟩:∃v,v=Value.slice A_ (z.2.2.2.1).length k_:=⟨_,rfl⟩;rw [←hv] at gq3 hwq ⊢;clear hv
 have gq4:=hq4;obtain ⟨A_,k_,rfl,-,-⟩:=hq4;obtain ⟨vq4,hv⟩:∃v,v=Value.slice A_ (z.2.2.2.2.1).length k_:=⟨_,rfl⟩;rw [←hv] at gq4 hwq ⊢;clear hv
 have gq5:=hq5;obtain ⟨A_,k_,rfl,-,-⟩:=hq5;obtain ⟨vq5,hv⟩:∃v,v=Value.slice A_ (z.2.2.2.2.2).length k_:=⟨_,rfl⟩;rw [←hv] at gq5 hwq ⊢;clear hv
 obtain ⟨eq,he⟩:∃cs,cs=[vq0]++([vq1]++([.int .i64 z.2.2.1]++([vq3]++([vq4]++([vq5]))))):=⟨_,rfl⟩;rw [←he] at hwq ⊢;have Eq:=zz he;clear he hwq
 have Kq0:=zz gq0;clear gq0
 have Kq1:=zz gq1;clear gq1
 have Kq3:=zz gq3;clear gq3
 have Kq4:=zz gq4;clear gq4
 have Kq5:=zz gq5;clear gq5
 obtain ⟨fF0,fF2,fF3,fF4⟩:=hf
 have F0:=zz fF0;clear fF0
 have F2:=zz fF2;clear fF2
 have F3:=zz fF3;clear fF3
 have F4:=zz fF4;clear fF4
 have O:=zz (z3a w.heap.size)
 have E:=zz (Env.start w)
 go_enter Tryz.func51,Tryz.ntmps51
 go_wp2_with (first|((with_reducible refine zd (N:=6) rfl ?_);replace O:=zz (And.intro E.1.le O.1);replace E:=zz (E.1.alloc ep 44 (g:=w.heap.size) rfl);replace E:=zz (E.1.alloc eq 44 (g:=(w.heap.size+1)) zq38);refine zf rfl 37 _ rfl w.heap.size 0 [] [vp0,vp1] ([.int .i64 z.2.2.1]++([vp3]++([vp4]++[vp5]))) _ rfl (E.1.box 1 rfl) zq26 (rfl) Tryz.underlying37 rfl zq13 ?_)|((with_reducible refine zd (N:=8) rfl ?_);refine zf rfl 37 _ rfl (w.heap.size+1) 0 [] [vq0,vq1] ([.int .i64 z.2.2.1]++([vq3]++([vq4]++[vq5]))) _ rfl (E.1.box 0 rfl) zq56 (rfl) Tryz.underlying37 rfl zq13 ?_))
 ((with_reducible refine (eqDisk_c k (z.1,z.2.1) (z.1,z.2.1) true _ (zsa (E.1.K Kp0.1) (E.1.K Kp1.1)) (zsa (E.1.K Kq0.1) (E.1.K Kq1.1)) F0.1).mono ?_);rintro e w1_ ⟨rfl,hb⟩)
 replace E:=zz (E.1.call hb);clear hb
 go_wp2_with (first|((with_reducible refine zd (N:=12) rfl ?_);refine zy rfl 3 _ rfl w.heap.size 2 ([vp0]++[vp1]) (.int .i64 z.2.2.1) ([vp3]++([vp4]++[vp5])) rfl (E.1.box 1 rfl) zq26 (rfl) Tryz.underlying3 rfl ?_)|((with_reducible refine zd (N:=14) rfl ?_);refine zy rfl 3 _ rfl (w.heap.size+1) 2 ([vq0]++[vq1]) (.int .i64 z.2.2.1) ([vq3]++([vq4]++[vq5])) rfl (E.1.box 0 rfl) zq56 (rfl) Tryz.underlying3 rfl ?_)|((with_reducible refine zd (N:=17) rfl ?_);refine zy rfl 29 _ rfl w.heap.size 3 ([vp0]++([vp1]++[.int .i64 z.2.2.1])) (vp3) ([vp4]++[vp5]) rfl (E.1.box 1 rfl) zq26 (rfl) Tryz.underlying29 rfl ?_)|((with_reducible refine zd (N:=19) rfl ?_);refine zy rfl 29 _ rfl (w.heap.size+1) 3 ([vq0]++([vq1]++[.int .i64 z.2.2.1])) (vq3) ([vq4]++[vq5]) rfl (E.1.box 0 rfl) zq56 (rfl) Tryz.underlying29 rfl ?_))
 ((with_reducible refine (eqInts_c k z.2.2.2.1 _ (E.1.K Kp3.1) (E.1.K Kq3.1) F2.1).mono ?_);rintro e w2_ ⟨rfl,hb⟩)
 replace E:=zz (E.1.call hb);clear hb
 go_wp2_with (first|((with_reducible refine zd (N:=23) rfl ?_);refine zy rfl 29 _ rfl w.heap.size 4 ([vp0]++([vp1]++([.int .i64 z.2.2.1]++[vp3]))) (vp4) [vp5] rfl (E.1.box 1 rfl) zq26 (rfl) Tryz.underlying29 rfl ?_)|((with_reducible refine zd (N:=25) rfl ?_);refine zy rfl 29 _ rfl (w.heap.size+1) 4 ([vq0]++([vq1]++([.int .i64 z.2.2.1]++[vq3]))) (vq4) [vq5] rfl (E.1.box 0 rfl) zq56 (rfl) Tryz.underlying29 rfl ?_))
 ((with_reducible refine (eqInts_c k z.2.2.2.2.1 _ (E.1.K Kp4.1) (E.1.K Kq4.1) F3.1).mono ?_);rintro e w3_ ⟨rfl,hb⟩)
 replace E:=zz (E.1.call hb);clear hb
 go_wp2_with (first|((with_reducible refine zd (N:=29) rfl ?_);refine zy rfl 29 _ rfl w.heap.size 5 ([vp0]++([vp1]++([.int .i64 z.2.2.1]++([vp3]++[vp4])))) (vp5) [] rfl (E.1.box 1 rfl) zq26 (rfl) Tryz.underlying29 rfl ?_)|((with_reducible refine zd (N:=31) rfl ?_);refine zy rfl 29 _ rfl (w.heap.size+1) 5 ([vq0]++([vq1]++([.int .i64 z.2.2.1]++([vq3]++[vq4])))) (vq5) [] rfl (E.1.box 0 rfl) zq56 (rfl) Tryz.underlying29 rfl ?_))
 ((with_reducible refine (eqInts_c k z.2.2.2.2.2 _ (E.1.K Kp5.1) (E.1.K Kq5.1) F4.1).mono ?_);rintro e w4_ ⟨rfl,hb⟩)
 replace E:=zz (E.1.call hb);clear hb
 go_wp2_with fail
 go_ret
 exact ⟨rfl,E.1.below⟩
def HeldWork (k:Nat) (z:(List ByteArray×List S110×Int×List Int×List Int×List Int)) (a r:Int):Prop:=∃t1 t2 t3:Int,zKb k (z.1,z.2.1) a=some t1∧¬t1<0∧laws_heldIntS.f k z.2.2.2.1 t1=some t2∧¬t2<0∧laws_heldIntS.f k z.2.2.2.2.1 t2=some t3∧¬t3<0∧laws_heldIntS.f k z.2.2.2.2.2 t3=some r∧¬r<0
theorem heldWork_c (k:Nat) (z:(List ByteArray×List S110×Int×List Int×List Int×List Int)) (a r:Int) {cs:List Value} (w:World) (h:kWork.K w z cs) (hf:HeldWork k z a r):
  Calls Tryz.prog 113 #[.agg cs.toArray,.int .i64 a] w fun e w'=>e= .returned (.int .i64 r)∧Below w.heap.size w w':=by
 have hwp:=h
 obtain ⟨cp0,_,rfl,hp0,cp1,_,rfl,hp1,cp2,_,rfl,hp2,cp3,_,rfl,hp3,cp4,cp5,rfl,hp4,hp5⟩:=h
 have gp0:=hp0;obtain ⟨A_,k_,rfl,-,-⟩:=hp0;obtain ⟨vp0,hv⟩:∃v,v=Value.slice A_ (z.1).length k_:=⟨_,rfl⟩;rw [←hv] at gp0 hwp ⊢;clear hv
 have gp1:=hp1;obtain ⟨A_,k_,rfl,-,-⟩:=hp1;obtain ⟨vp1,hv⟩:∃v,v=Value.slice A_ (z.2.1).length k_:=⟨_,rfl⟩;rw [←hv] at gp1 hwp ⊢;clear hv
 obtain rfl:cp2=[.int .i64 z.2.2.1]:=hp2
 have gp3:=hp3;obtain ⟨A_,k_,rfl,-,-⟩:=hp3;obtain ⟨vp3,hv⟩:∃v,v=Value.slice A_ (z.2.2.2.1).length k_:=⟨_,rfl⟩;rw [←hv] at gp3 hwp ⊢;clear hv
 have gp4:=hp4;obtain ⟨A_,k_,rfl,-,-⟩:=hp4;obtain ⟨vp4,hv⟩:∃v,v=Value.slice A_ (z.2.2.2.2.1).length k_:=⟨_,rfl⟩;rw [←hv] at gp4 hwp ⊢;clear hv
 have gp5:=hp5;obtain ⟨A_,k_,rfl,-,-⟩:=hp5;obtain ⟨vp5,hv⟩:∃v,v=Value.slice A_ (z.2.2.2.2.2).length k_:=⟨_,rfl⟩;rw [←hv] at gp5 hwp ⊢;clear hv
 obtain ⟨ep,he⟩:∃cs,cs=[vp0]++([vp1]++([.int .i64 z.2.2.1]++([vp3]++([vp4]++([vp5]))))):=⟨_,rfl⟩;rw [←he] at hwp ⊢;have Ep:=zz he;clear he hwp
 have Kp0:=zz gp0;clear gp0
 have Kp1:=zz gp1;clear gp1
 have Kp3:=zz gp3;clear gp3
 have Kp4:=zz gp4;clear gp4
 have Kp5:=zz gp5;clear gp5
 obtain ⟨t1,t2,t3,f0,n0,f1,n1,f2,n2,f3,n3⟩:=hf
 have F0:=zz f0;clear f0;replace n0:decide (t1<0)=false:=z7 n0
 have F1:=zz f1;clear f1;replace n1:decide (t2<0)=false:=z7 n1
 have F2:=zz f2;clear f2;replace n2:decide (t3<0)=false:=z7 n2
 have F3:=zz f3;clear f3;replace n3:decide (r<0)=false:=z7 n3
 have O:=zz (z3a w.heap.size)
 have E:=zz (Env.start w)
 go_enter Tryz.func113,Tryz.ntmps113
 go_wp2_with (first|((with_reducible refine zd (N:=6) rfl ?_);replace O:=zz (And.intro E.1.le O.1);replace E:=zz (E.1.alloc ep 44 (g:=w.heap.size) rfl);refine zf rfl 37 _ rfl w.heap.size 0 [] [vp0,vp1] ([.int .i64 z.2.2.1]++([vp3]++([vp4]++[vp5]))) _ rfl (E.1.box 0 rfl) zq26 (rfl) Tryz.underlying37 rfl zq13 ?_))
 ((with_reducible refine (heldDisk_c k (z.1,z.2.1) a t1 _ (zsa (E.1.K Kp0.1) (E.1.K Kp1.1)) F0.1).mono ?_);rintro e w1_ ⟨rfl,hb⟩)
 replace E:=zz (E.1.call hb);clear hb
 go_wp2_with (first|((with_reducible refine zd (N:=12) rfl ?_);refine zy rfl 29 _ rfl w.heap.size 3 ([vp0]++([vp1]++[.int .i64 z.2.2.1])) (vp3) ([vp4]++[vp5]) rfl (E.1.box 0 rfl) zq26 (rfl) Tryz.underlying29 rfl ?_))
 ((with_reducible refine (heldInts_c k z.2.2.2.1 t1 t2 _ (E.1.K Kp3.1) F1.1).mono ?_);rintro e w2_ ⟨rfl,hb⟩)
 replace E:=zz (E.1.call hb);clear hb
 go_wp2_with (first|((with_reducible refine zd (N:=18) rfl ?_);refine zy rfl 29 _ rfl w.heap.size 4 ([vp0]++([vp1]++([.int .i64 z.2.2.1]++[vp3]))) (vp4) [vp5] rfl (E.1.box 0 rfl) zq26 (rfl) Tryz.underlying29 rfl ?_))
 ((with_reducible refine (heldInts_c k z.2.2.2.2.1 t2 t3 _ (E.1.K Kp4.1) F2.1).mono ?_);rintro e w3_ ⟨rfl,hb⟩)
 replace E:=zz (E.1.call hb);clear hb
 go_wp2_with (first|((with_reducible refine zd (N:=24) rfl ?_);refine zy rfl 29 _ rfl w.heap.size 5 ([vp0]++([vp1]++([.int .i64 z.2.2.1]++([vp3]++[vp4])))) (vp5) [] rfl (E.1.box 0 rfl) zq26 (rfl) Tryz.underlying29 rfl ?_))
 ((with_reducible refine (heldInts_c k z.2.2.2.2.2 t3 r _ (E.1.K Kp5.1) F3.1).mono ?_);rintro e w4_ ⟨rfl,hb⟩)
 replace E:=zz (E.1.call hb);clear hb
 go_wp2_with fail
 go_ret
 exact ⟨rfl,E.1.below⟩
def ToWork (k:Nat) (a:(List ByteArray×List S156×Int×List Int×List Int×List Int)) (z:(List ByteArray×List S110×Int×List Int×List Int×List Int)):Prop:=laws_toDisk.f k a.1 a.2.1=some (z.1,z.2.1)∧z.2.2.1=a.2.2.1∧laws_toIntS.f k a.2.2.2.1=some z.2.2.2.1∧laws_toIntS.f k a.2.2.2.2.1=some z.2.2.2.2.1∧laws_toIntS.f k a.2.2.2.2.2=some z.2.2.2.2.2
theorem toWork_c (k:Nat) (a:(List ByteArray×List S156×Int×List Int×List Int×List Int)) (z:(List ByteArray×List S110×Int×List Int×List Int×List Int)) {cs:List Value} (w:World) (h:kWorkL.K w a cs) (hf:ToWork k a z):
  Calls Tryz.prog 41 #[.agg cs.toArray] w fun e w'=>∃ds:List Value,e= .returned (.agg ds.toArray)∧kWork.M w' w.heap.size (Fr w w') z ds∧Below w.heap.size w w':=by
 have hwp:=h
 obtain ⟨cp0,_,rfl,hp0,cp1,_,rfl,hp1,cp2,_,rfl,hp2,cp3,_,rfl,hp3,cp4,cp5,rfl,hp4,hp5⟩:=h
 have gp0:=hp0;obtain ⟨A_,k_,rfl,-,-⟩:=hp0;obtain ⟨vp0,hv⟩:∃v,v=Value.slice A_ (a.1).length k_:=⟨_,rfl⟩;rw [←hv] at gp0 hwp ⊢;clear hv
 have gp1:=hp1;obtain ⟨A_,k_,rfl,-,-⟩:=hp1;obtain ⟨vp1,hv⟩:∃v,v=Value.slice A_ (a.2.1).length k_:=⟨_,rfl⟩;rw [←hv] at gp1 hwp ⊢;clear hv
 obtain rfl:cp2=[.int .i64 a.2.2.1]:=hp2
 have gp3:=hp3;obtain ⟨A_,k_,rfl,-,-⟩:=hp3;obtain ⟨vp3,hv⟩:∃v,v=Value.slice A_ (a.2.2.2.1).length k_:=⟨_,rfl⟩;rw [←hv] at gp3 hwp ⊢;clear hv
 have gp4:=hp4;obtain ⟨A_,k_,rfl,-,-⟩:=hp4;obtain ⟨vp4,hv⟩:∃v,v=Value.slice A_ (a.2.2.2.2.1).length k_:=⟨_,rfl⟩;rw [←hv] at gp4 hwp ⊢;clear hv
 have gp5:=hp5;obtain ⟨A_,k_,rfl,-,-⟩:=hp5;obtain ⟨vp5,hv⟩:∃v,v=Value.slice A_ (a.2.2.2.2.2).length k_:=⟨_,rfl⟩;rw [←hv] at gp5 hwp ⊢;clear hv
 obtain ⟨ep,he⟩:∃cs,cs=[vp0]++([vp1]++([.int .i64 a.2.2.1]++([vp3]++([vp4]++([vp5]))))):=⟨_,rfl⟩;rw [←he] at hwp ⊢;have Ep:=zz he;clear he hwp
 have Kp0:=zz gp0;clear gp0
 have Kp1:=zz gp1;clear gp1
 have Kp3:=zz gp3;clear gp3
 have Kp4:=zz gp4;clear gp4
 have Kp5:=zz gp5;clear gp5
 obtain ⟨fF0,fF1,fF2,fF3,fF4⟩:=hf
 have F0:=zz fF0;clear fF0
 have F1:=zz fF1;clear fF1
 have F2:=zz fF2;clear fF2
 have F3:=zz fF3;clear fF3
 have F4:=zz fF4;clear fF4
 have O:=zz (z3a w.heap.size)
 have E:=zz (Env.start w)
 go_enter Tryz.func41,Tryz.ntmps41
 go_wp2_with (first|((with_reducible refine zd (N:=5) rfl ?_);replace O:=zz (And.intro E.1.le O.1);replace E:=zz (E.1.alloc ep 31 (g:=w.heap.size) rfl);replace E:=zz (E.1.alloc Z44 44 (g:=(w.heap.size+1)) zq38);replace E:=zz (E.1.alloc Z44 44 (g:=(w.heap.size+1+1)) zq38);refine zf rfl 28 _ rfl w.heap.size 0 [] [vp0,vp1] ([.int .i64 a.2.2.1]++([vp3]++([vp4]++[vp5]))) _ rfl (E.1.box 2 rfl) zq26 (rfl) Tryz.underlying28 rfl zq13 ?_))
 ((with_reducible refine (toDisk_c k (a.1,a.2.1) (z.1,z.2.1) _ (kDiskL_lit (E.1.K Kp0.1) (E.1.K Kp1.1)) F0.1).mono ?_);rintro e w1_ ⟨d0,rfl,M0,hb⟩)
 have q:=E.1.made4 O.1 2 rfl M0 hb;clear O E M0 hb;obtain ⟨n3_,m4_,L0,Q0,O,E⟩:=q
 go_wp2_with (first|((with_reducible refine zm (t:=37) (p:=7) rfl ?_);refine zn rfl 37 _ _ rfl rfl (w.heap.size+1+1) 0 d0 [] [.slice none 0 0,.slice none 0 0] [.int .i64 0,.slice none 0 0,.slice none 0 0,.slice none 0 0] rfl rfl (E.1.box 1 rfl) zq6 (rfl) (zq40 L0.1) (zq24 L0.1) Q0.1 ?_;intro W5_ hp hn;replace E:=E.1.put2 1 hp hn zq7;clear hp hn)|((with_reducible refine zd (N:=9) rfl ?_);refine zy rfl 3 _ rfl w.heap.size 2 ([vp0]++[vp1]) (.int .i64 a.2.2.1) ([vp3]++([vp4]++[vp5])) rfl (E.1.box 3 rfl) zq26 (rfl) Tryz.underlying3 rfl ?_)|((with_reducible refine zm (t:=3) (p:=10) rfl ?_);refine zT rfl 3 _ _ rfl rfl (w.heap.size+1+1) 2 (.int .i64 a.2.2.1) (.int .i64 0) d0 [.slice none 0 0,.slice none 0 0,.slice none 0 0] rfl rfl (E.1.box 1 rfl) zq6 (L0.1) zq13 rfl rfl ?_;intro W6_ hp hn;replace E:=E.1.put2 1 hp hn zq7;clear hp hn)|((with_reducible refine zd (N:=12) rfl ?_);refine zy rfl 29 _ rfl w.heap.size 3 ([vp0]++([vp1]++[.int .i64 a.2.2.1])) (vp3) ([vp4]++[vp5]) rfl (E.1.box 3 rfl) zq26 (rfl) Tryz.underlying29 rfl ?_))
 ((with_reducible refine (toInts_c k a.2.2.2.1 z.2.2.2.1 _ (E.1.K Kp3.1) F2.1).mono ?_);rintro e w7_ ⟨d8_,rfl,M1,hb⟩)
 have q:=E.1.made4 O.1 1 rfl M1 hb;clear O E M1 hb;obtain ⟨n9_,m10_,Ld8_,Od8_,O,E⟩:=q
 obtain ⟨B0,e0,hv,-⟩:=E.1.mk_ 0 rfl;injection hv with hv;subst hv
 go_wp2_with (first|((with_reducible refine zm (t:=29) (p:=14) rfl ?_);refine zT rfl 29 _ _ rfl rfl (w.heap.size+1+1) 3 (.slice B0 z.2.2.2.1.length e0) (.slice none 0 0) (d0++[.int .i64 a.2.2.1]) [.slice none 0 0,.slice none 0 0] rfl rfl (E.1.box 2 rfl) zq6 (zq94 L0.1) zq13 rfl rfl ?_;intro W13_ hp hn;replace E:=E.1.put2 2 hp hn zq7;clear hp hn)|((with_reducible refine zd (N:=16) rfl ?_);refine zy rfl 29 _ rfl w.heap.size 4 ([vp0]++([vp1]++([.int .i64 a.2.2.1]++[vp3]))) (vp4) [vp5] rfl (E.1.box 4 rfl) zq26 (rfl) Tryz.underlying29 rfl ?_))
 ((with_reducible refine (toInts_c k a.2.2.2.2.1 z.2.2.2.2.1 _ (E.1.K Kp4.1) F3.1).mono ?_);rintro e w14_ ⟨d15_,rfl,M2,hb⟩)
 have q:=E.1.made4 O.1 1 rfl M2 hb;clear O E M2 hb;obtain ⟨n16_,m17_,Ld15_,Od15_,O,E⟩:=q
 obtain ⟨B2,e1,hv,-⟩:=E.1.mk_ 0 rfl;injection hv with hv;subst hv
 go_wp2_with (first|((with_reducible refine zm (t:=29) (p:=18) rfl ?_);refine zT rfl 29 _ _ rfl rfl (w.heap.size+1+1) 4 (.slice B2 z.2.2.2.2.1.length e1) (.slice none 0 0) (d0++([.int .i64 a.2.2.1]++[.slice B0 z.2.2.2.1.length e0])) [.slice none 0 0] rfl rfl (E.1.box 3 rfl) zq6 (zq94 L0.1) zq13 rfl rfl ?_;intro W20_ hp hn;replace E:=E.1.put2 3 hp hn zq7;clear hp hn)|((with_reducible refine zd (N:=20) rfl ?_);refine zy rfl 29 _ rfl w.heap.size 5 ([vp0]++([vp1]++([.int .i64 a.2.2.1]++([vp3]++[vp4])))) (vp5) [] rfl (E.1.box 5 rfl) zq26 (rfl) Tryz.underlying29 rfl ?_))
 ((with_reducible refine (toInts_c k a.2.2.2.2.2 z.2.2.2.2.2 _ (E.1.K Kp5.1) F4.1).mono ?_);rintro e w21_ ⟨d22_,rfl,M3,hb⟩)
 have q:=E.1.made4 O.1 1 rfl M3 hb;clear O E M3 hb;obtain ⟨n23_,m24_,Ld22_,Od22_,O,E⟩:=q
 obtain ⟨B4,e2,hv,-⟩:=E.1.mk_ 0 rfl;injection hv with hv;subst hv
 obtain ⟨c0,E0,L1,O0⟩:=lump_ (d0++([.int .i64 a.2.2.1]++([.slice B0 z.2.2.2.1.length e0]++([.slice B2 z.2.2.2.2.1.length e1]++[.slice B4 z.2.2.2.2.2.length e2])))) 6 (zq94 L0.1) (zH Q0.1 (zH (zPa rfl) (zH (zPa rfl) (zH (zPa rfl) (zPa rfl)))))
 go_wp2_with (first|((with_reducible refine zm (t:=29) (p:=22) rfl ?_);refine zT rfl 29 _ _ rfl rfl (w.heap.size+1+1) 5 (.slice B4 z.2.2.2.2.2.length e2) (.slice none 0 0) (d0++([.int .i64 a.2.2.1]++([.slice B0 z.2.2.2.1.length e0]++[.slice B2 z.2.2.2.2.1.length e1]))) [] rfl rfl (E.1.box 4 rfl) zq6 (zq94 L0.1) zq13 rfl rfl ?_;intro W27_ hp hn;replace E:=E.1.put2 4 hp hn zq7;clear hp hn)|((with_reducible refine zd (N:=23) rfl ?_);refine zf rfl 44 _ rfl (w.heap.size+1+1) 0 [] c0 [] _ rfl (E.1.box 4 rfl) (zq62 E0.1) (rfl) Tryz.underlying44 rfl (zq24 L1.1) ?_)|((with_reducible refine zm (t:=44) (p:=2) rfl ?_);refine zn rfl 44 _ _ rfl rfl (w.heap.size+1) 0 c0 [] Z44 [] rfl rfl (E.1.box 5 rfl) zq6 (rfl) (zq40 L1.1) (zq24 L1.1) O0.1 ?_;intro W29_ hp hn;replace E:=E.1.put2 5 hp hn zq7;clear hp hn))
 have BX:=zz (show _=some (Obj.cells (c0:List Value).toArray 44 (0,0)) from by first|exact (E.1.box 5 rfl)|simpa only [aA,aN,aL] using (E.1.box 5 rfl))
 refine bodyPost_ret (zya rfl _ _ (w.heap.size+1) 44 _ _ _ rfl BX.1 Tryz.underlying44 rfl (by rw [List.size_toArray,show (c0:List Value).length=6 from L1.1];kernel_rfl)) rfl ?_
 have e_:((z.1,z.2.1,a.2.2.1,z.2.2.2.1,z.2.2.2.2.1,z.2.2.2.2.2):(List ByteArray×List S110×Int×List Int×List Int×List Int))=z:=by (try simp only [←F1.1])<;>rfl
 rw [←e_]
 exact ⟨_,rfl,(zq54 E0.1),E.1.below⟩
def EqTxn (k:Nat) (z:(S40×(List ByteArray×List S110×Int×List Int×List Int×List Int)×Int)):Prop:=eqMeta_c_f k z.1 z.1=some true∧EqWork k z.2.1
theorem eqTxn_c (k:Nat) (z:(S40×(List ByteArray×List S110×Int×List Int×List Int×List Int)×Int)) {cs ds:List Value} (w:World) (h:kTxn.K w z cs) (h2:kTxn.K w z ds) (hf:EqTxn k z):
  Calls Tryz.prog 12 #[.agg cs.toArray,.agg ds.toArray] w fun e w'=>e= .returned (.bool true)∧Below w.heap.size w w':=by
 have hwp:=h
 obtain ⟨cp0,_,rfl,hp0,cp1,cp2,rfl,hp1,hp2⟩:=h
 obtain rfl:cp2=[.int .i64 z.2.2]:=hp2
 obtain ⟨ep,he⟩:∃cs,cs=cp0++(cp1++([.int .i64 z.2.2])):=⟨_,rfl⟩;rw [←he] at hwp ⊢;have Ep:=zz he;clear he hwp
 have Kp0:=zz hp0;have Lp0:=zz (show cp0.length=4 from Kd.K_len _ hp0);clear hp0
 have Kp1:=zz hp1;have Lp1:=zz (show cp1.length=6 from Kd.K_len _ hp1);clear hp1
 have hwq:=h2
 obtain ⟨cq0,_,rfl,hq0,cq1,cq2,rfl,hq1,hq2⟩:=h2
 obtain rfl:cq2=[.int .i64 z.2.2]:=hq2
 obtain ⟨eq,he⟩:∃cs,cs=cq0++(cq1++([.int .i64 z.2.2])):=⟨_,rfl⟩;rw [←he] at hwq ⊢;have Eq:=zz he;clear he hwq
 have Kq0:=zz hq0;have Lq0:=zz (show cq0.length=4 from Kd.K_len _ hq0);clear hq0
 have Kq1:=zz hq1;have Lq1:=zz (show cq1.length=6 from Kd.K_len _ hq1);clear hq1
 obtain ⟨fF0,fF1⟩:=hf
 have F0:=zz fF0;clear fF0
 have F1:=zz fF1;clear fF1
 have O:=zz (z3a w.heap.size)
 have E:=zz (Env.start w)
 go_enter Tryz.func12,Tryz.ntmps12
 go_wp2_with (first|((with_reducible refine zd (N:=6) rfl ?_);replace O:=zz (And.intro E.1.le O.1);replace E:=zz (E.1.alloc ep 46 (g:=w.heap.size) rfl);replace E:=zz (E.1.alloc eq 46 (g:=(w.heap.size+1)) zq38);refine zf rfl 40 _ rfl w.heap.size 0 [] cp0 (cp1++[.int .i64 z.2.2]) _ rfl (E.1.box 1 rfl) zq26 (rfl) Tryz.underlying40 rfl (zq24 Lp0.1) ?_)|((with_reducible refine zd (N:=8) rfl ?_);refine zf rfl 40 _ rfl (w.heap.size+1) 0 [] cq0 (cq1++[.int .i64 z.2.2]) _ rfl (E.1.box 0 rfl) zq56 (rfl) Tryz.underlying40 rfl (zq24 Lq0.1) ?_))
 ((with_reducible refine (eqMeta_c k z.1 z.1 true _ (E.1.K Kp0.1) (E.1.K Kq0.1) F0.1).mono ?_);rintro e w1_ ⟨rfl,hb⟩)
 replace E:=zz (E.1.call hb);clear hb
 go_wp2_with (first|((with_reducible refine zd (N:=12) rfl ?_);refine zf rfl 44 _ rfl w.heap.size 4 cp0 cp1 [.int .i64 z.2.2] _ rfl (E.1.box 1 rfl) zq26 (Lp0.1) Tryz.underlying44 rfl (zq24 Lp1.1) ?_)|((with_reducible refine zd (N:=14) rfl ?_);refine zf rfl 44 _ rfl (w.heap.size+1) 4 cq0 cq1 [.int .i64 z.2.2] _ rfl (E.1.box 0 rfl) zq56 (Lq0.1) Tryz.underlying44 rfl (zq24 Lq1.1) ?_))
 ((with_reducible refine (eqWork_c k z.2.1 _ (E.1.K Kp1.1) (E.1.K Kq1.1) F1.1).mono ?_);rintro e w2_ ⟨rfl,hb⟩)
 replace E:=zz (E.1.call hb);clear hb
 go_wp2_with (first|((with_reducible refine zd (N:=18) rfl ?_);refine zy rfl 3 _ rfl w.heap.size 10 (cp0++cp1) (.int .i64 z.2.2) [] rfl (E.1.box 1 rfl) zq26 (zq47 Lp0.1 Lp1.1) Tryz.underlying3 rfl ?_)|((with_reducible refine zd (N:=20) rfl ?_);refine zy rfl 3 _ rfl (w.heap.size+1) 10 (cq0++cq1) (.int .i64 z.2.2) [] rfl (E.1.box 0 rfl) zq56 (zq47 Lq0.1 Lq1.1) Tryz.underlying3 rfl ?_))
 go_ret
 exact ⟨rfl,E.1.below⟩
def HeldTxn (k:Nat) (z:(S40×(List ByteArray×List S110×Int×List Int×List Int×List Int)×Int)) (a r:Int):Prop:=∃t1:Int,zwb k z.1 a=some t1∧¬t1<0∧HeldWork k z.2.1 t1 r∧¬r<0
theorem heldTxn_c (k:Nat) (z:(S40×(List ByteArray×List S110×Int×List Int×List Int×List Int)×Int)) (a r:Int) {cs:List Value} (w:World) (h:kTxn.K w z cs) (hf:HeldTxn k z a r):
  Calls Tryz.prog 74 #[.agg cs.toArray,.int .i64 a] w fun e w'=>e= .returned (.int .i64 r)∧Below w.heap.size w w':=by
 have hwp:=h
 obtain ⟨cp0,_,rfl,hp0,cp1,cp2,rfl,hp1,hp2⟩:=h
 obtain rfl:cp2=[.int .i64 z.2.2]:=hp2
 obtain ⟨ep,he⟩:∃cs,cs=cp0++(cp1++([.int .i64 z.2.2])):=⟨_,rfl⟩;rw [←he] at hwp ⊢;have Ep:=zz he;clear he hwp
 have Kp0:=zz hp0;have Lp0:=zz (show cp0.length=4 from Kd.K_len _ hp0);clear hp0
 have Kp1:=zz hp1;have Lp1:=zz (show cp1.length=6 from Kd.K_len _ hp1);clear hp1
 obtain ⟨t1,f0,n0,f1,n1⟩:=hf
 have F0:=zz f0;clear f0;replace n0:decide (t1<0)=false:=z7 n0
 have F1:=zz f1;clear f1;replace n1:decide (r<0)=false:=z7 n1
 have O:=zz (z3a w.heap.size)
 have E:=zz (Env.start w)
 go_enter Tryz.func74,Tryz.ntmps74
 go_wp2_with (first|((with_reducible refine zd (N:=6) rfl ?_);replace O:=zz (And.intro E.1.le O.1);replace E:=zz (E.1.alloc ep 46 (g:=w.heap.size) rfl);refine zf rfl 40 _ rfl w.heap.size 0 [] cp0 (cp1++[.int .i64 z.2.2]) _ rfl (E.1.box 0 rfl) zq26 (rfl) Tryz.underlying40 rfl (zq24 Lp0.1) ?_))
 ((with_reducible refine (heldMeta_c k z.1 a t1 _ (E.1.K Kp0.1) F0.1).mono ?_);rintro e w1_ ⟨rfl,hb⟩)
 replace E:=zz (E.1.call hb);clear hb
 go_wp2_with (first|((with_reducible refine zd (N:=12) rfl ?_);refine zf rfl 44 _ rfl w.heap.size 4 cp0 cp1 [.int .i64 z.2.2] _ rfl (E.1.box 0 rfl) zq26 (Lp0.1) Tryz.underlying44 rfl (zq24 Lp1.1) ?_))
 ((with_reducible refine (heldWork_c k z.2.1 t1 r _ (E.1.K Kp1.1) F1.1).mono ?_);rintro e w2_ ⟨rfl,hb⟩)
 replace E:=zz (E.1.call hb);clear hb
 go_wp2_with fail
 go_ret
 exact ⟨rfl,E.1.below⟩
def ToTxn (k:Nat) (a:(S24×(List ByteArray×List S156×Int×List Int×List Int×List Int)×Int)) (z:(S40×(List ByteArray×List S110×Int×List Int×List Int×List Int)×Int)):Prop:=laws_toMeta.f k a.1.f0 a.1.f1 a.1.f2 a.1.f3=some (z.1.f0,z.1.f1,z.1.f2,z.1.f3)∧ToWork k a.2.1 z.2.1∧z.2.2=a.2.2
theorem toTxn_c (k:Nat) (a:(S24×(List ByteArray×List S156×Int×List Int×List Int×List Int)×Int)) (z:(S40×(List ByteArray×List S110×Int×List Int×List Int×List Int)×Int)) {cs:List Value} (w:World) (h:kTxnL.K w a cs) (hf:ToTxn k a z):
  Calls Tryz.prog 8 #[.agg cs.toArray] w fun e w'=>∃ds:List Value,e= .returned (.agg ds.toArray)∧kTxn.M w' w.heap.size (Fr w w') z ds∧Below w.heap.size w w':=by
 have hwp:=h
 obtain ⟨cp0,_,rfl,hp0,cp1,cp2,rfl,hp1,hp2⟩:=h
 obtain rfl:cp2=[.int .i64 a.2.2]:=hp2
 obtain ⟨ep,he⟩:∃cs,cs=cp0++(cp1++([.int .i64 a.2.2])):=⟨_,rfl⟩;rw [←he] at hwp ⊢;have Ep:=zz he;clear he hwp
 have Kp0:=zz hp0;have Lp0:=zz (show cp0.length=4 from Kd.K_len _ hp0);clear hp0
 have Kp1:=zz hp1;have Lp1:=zz (show cp1.length=6 from Kd.K_len _ hp1);clear hp1
 obtain ⟨fF0,fF1,fF2⟩:=hf
 have F0:=zz fF0;clear fF0
 have F1:=zz fF1;clear fF1
 have F2:=zz fF2;clear fF2
 have O:=zz (z3a w.heap.size)
 have E:=zz (Env.start w)
 go_enter Tryz.func8,Tryz.ntmps8
 go_wp2_with (first|((with_reducible refine zd (N:=5) rfl ?_);replace O:=zz (And.intro E.1.le O.1);replace E:=zz (E.1.alloc ep 33 (g:=w.heap.size) rfl);replace E:=zz (E.1.alloc Z46 46 (g:=(w.heap.size+1)) zq38);replace E:=zz (E.1.alloc Z46 46 (g:=(w.heap.size+1+1)) zq38);refine zf rfl 24 _ rfl w.heap.size 0 [] cp0 (cp1++[.int .i64 a.2.2]) _ rfl (E.1.box 2 rfl) zq26 (rfl) Tryz.underlying24 rfl (zq24 Lp0.1) ?_))
 ((with_reducible refine (toMeta_o k a.1 z.1 _ (E.1.K Kp0.1) F0.1).mono ?_);rintro e w1_ ⟨d0,rfl,M0,hb⟩)
 have q:=E.1.made4 O.1 4 rfl M0 hb;clear O E M0 hb;obtain ⟨n3_,m4_,L0,Q0,O,E⟩:=q
 go_wp2_with (first|((with_reducible refine zm (t:=40) (p:=7) rfl ?_);refine zn rfl 40 _ _ rfl rfl (w.heap.size+1+1) 0 d0 [] [.int .i64 0,.int .i64 0,.int .i64 0,.slice none 0 0] [.slice none 0 0,.slice none 0 0,.int .i64 0,.slice none 0 0,.slice none 0 0,.slice none 0 0,.int .i64 0] rfl rfl (E.1.box 1 rfl) zq6 (rfl) (zq40 L0.1) (zq24 L0.1) Q0.1 ?_;intro W5_ hp hn;replace E:=E.1.put2 1 hp hn zq7;clear hp hn)|((with_reducible refine zd (N:=9) rfl ?_);refine zf rfl 31 _ rfl w.heap.size 4 cp0 cp1 [.int .i64 a.2.2] _ rfl (E.1.box 3 rfl) zq26 (Lp0.1) Tryz.underlying31 rfl (zq24 Lp1.1) ?_))
 ((with_reducible refine (toWork_c k a.2.1 z.2.1 _ (E.1.K Kp1.1) F1.1).mono ?_);rintro e w6_ ⟨d1,rfl,M1,hb⟩)
 have q:=E.1.made4 O.1 6 rfl M1 hb;clear O E M1 hb;obtain ⟨n8_,m9_,L1,Q1,O,E⟩:=q
 obtain ⟨c0,E0,L2,O0⟩:=lump_ (d0++(d1++[.int .i64 a.2.2])) 11 (zq47 L0.1 L1.1) (zH Q0.1 (zH Q1.1 (zPa rfl)))
 go_wp2_with (first|((with_reducible refine zm (t:=44) (p:=11) rfl ?_);refine zn rfl 44 _ _ rfl rfl (w.heap.size+1+1) 4 d1 d0 [.slice none 0 0,.slice none 0 0,.int .i64 0,.slice none 0 0,.slice none 0 0,.slice none 0 0] [.int .i64 0] rfl rfl (E.1.box 2 rfl) zq6 (L0.1) (zq40 L1.1) (zq24 L1.1) Q1.1 ?_;intro W10_ hp hn;replace E:=E.1.put2 2 hp hn zq7;clear hp hn)|((with_reducible refine zd (N:=13) rfl ?_);refine zy rfl 3 _ rfl w.heap.size 10 (cp0++cp1) (.int .i64 a.2.2) [] rfl (E.1.box 4 rfl) zq26 (zq47 Lp0.1 Lp1.1) Tryz.underlying3 rfl ?_)|((with_reducible refine zm (t:=3) (p:=14) rfl ?_);refine zT rfl 3 _ _ rfl rfl (w.heap.size+1+1) 10 (.int .i64 a.2.2) (.int .i64 0) (d0++d1) [] rfl rfl (E.1.box 2 rfl) zq6 (zq47 L0.1 L1.1) zq13 rfl rfl ?_;intro W11_ hp hn;replace E:=E.1.put2 2 hp hn zq7;clear hp hn)|((with_reducible refine zd (N:=15) rfl ?_);refine zf rfl 46 _ rfl (w.heap.size+1+1) 0 [] c0 [] _ rfl (E.1.box 2 rfl) (zq62 E0.1) (rfl) Tryz.underlying46 rfl (zq24 L2.1) ?_)|((with_reducible refine zm (t:=46) (p:=2) rfl ?_);refine zn rfl 46 _ _ rfl rfl (w.heap.size+1) 0 c0 [] Z46 [] rfl rfl (E.1.box 3 rfl) zq6 (rfl) (zq40 L2.1) (zq24 L2.1) O0.1 ?_;intro W13_ hp hn;replace E:=E.1.put2 3 hp hn zq7;clear hp hn))
 have BX:=zz (show _=some (Obj.cells (c0:List Value).toArray 46 (0,0)) from by first|exact (E.1.box 3 rfl)|simpa only [aA,aN,aL] using (E.1.box 3 rfl))
 refine bodyPost_ret (zya rfl _ _ (w.heap.size+1) 46 _ _ _ rfl BX.1 Tryz.underlying46 rfl (zq121 L2.1)) rfl ?_
 have e_:((z.1,z.2.1,a.2.2):(S40×(List ByteArray×List S110×Int×List Int×List Int×List Int)×Int))=z:=by (try simp only [←F2.1])<;>rfl
 rw [←e_]
 exact ⟨_,rfl,(zq58 E0.1),E.1.below⟩
def EqStore (k:Nat) (z:((List ByteArray×List S110)×S40×List S135×(S40×(List ByteArray×List S110×Int×List Int×List Int×List Int)×Int)×Bool×Bool)):Prop:=eqDisk_c_f k z.1 z.1=some true∧eqMeta_c_f k z.2.1 z.2.1=some true∧laws_eqReaderS.f k z.2.2.1 z.2.2.1=some true∧EqTxn k z.2.2.2.1
theorem eqStore_c (k:Nat) (z:((List ByteArray×List S110)×S40×List S135×(S40×(List ByteArray×List S110×Int×List Int×List Int×List Int)×Int)×Bool×Bool)) {cs ds:List Value} (w:World) (h:kStore.K w z cs) (h2:kStore.K w z ds) (hf:EqStore k z):
  Calls Tryz.prog 27 #[.agg cs.toArray,.agg ds.toArray] w fun e w'=>e= .returned (.bool true)∧Below w.heap.size w w':=by
 have hwp:=h
 obtain ⟨cp0,_,rfl,hp0,cp1,_,rfl,hp1,cp2,_,rfl,hp2,cp3,_,rfl,hp3,cp4,cp5,rfl,hp4,hp5⟩:=h
 have gp2:=hp2;obtain ⟨A_,k_,rfl,-,-⟩:=hp2;obtain ⟨vp2,hv⟩:∃v,v=Value.slice A_ (z.2.2.1).length k_:=⟨_,rfl⟩;rw [←hv] at gp2 hwp ⊢;clear hv
 obtain rfl:cp4=[.bool z.2.2.2.2.1]:=hp4
 obtain rfl:cp5=[.bool z.2.2.2.2.2]:=hp5
 obtain ⟨ep,he⟩:∃cs,cs=cp0++(cp1++([vp2]++(cp3++([.bool z.2.2.2.2.1]++([.bool z.2.2.2.2.2]))))):=⟨_,rfl⟩;rw [←he] at hwp ⊢;have Ep:=zz he;clear he hwp
 have Kp0:=zz hp0;have Lp0:=zz (show cp0.length=2 from Kd.K_len _ hp0);clear hp0
 have Kp1:=zz hp1;have Lp1:=zz (show cp1.length=4 from Kd.K_len _ hp1);clear hp1
 have Kp2:=zz gp2;clear gp2
 have Kp3:=zz hp3;have Lp3:=zz (show cp3.length=11 from Kd.K_len _ hp3);clear hp3
 have hwq:=h2
 obtain ⟨cq0,_,rfl,hq0,cq1,_,rfl,hq1,cq2,_,rfl,hq2,cq3,_,rfl,hq3,cq4,cq5,rfl,hq4,hq5⟩:=h2
 have gq2:=hq2;obtain ⟨A_,k_,rfl,-,-⟩:=hq2;obtain ⟨vq2,hv⟩:∃v,v=Value.slice A_ (z.2.2.1).length k_:=⟨_,rfl⟩;rw [←hv] at gq2 hwq ⊢;clear hv
 obtain rfl:cq4=[.bool z.2.2.2.2.1]:=hq4
 obtain rfl:cq5=[.bool z.2.2.2.2.2]:=hq5
 obtain ⟨eq,he⟩:∃cs,cs=cq0++(cq1++([vq2]++(cq3++([.bool z.2.2.2.2.1]++([.bool z.2.2.2.2.2]))))):=⟨_,rfl⟩;rw [←he] at hwq ⊢;have Eq:=zz he;clear he hwq
 have Kq0:=zz hq0;have Lq0:=zz (show cq0.length=2 from Kd.K_len _ hq0);clear hq0
 have Kq1:=zz hq1;have Lq1:=zz (show cq1.length=4 from Kd.K_len _ hq1);clear hq1
 have Kq2:=zz gq2;clear gq2
 have Kq3:=zz hq3;have Lq3:=zz (show cq3.length=11 from Kd.K_len _ hq3);clear hq3
 obtain ⟨fF0,fF1,fF2,fF3⟩:=hf
 have F0:=zz fF0;clear fF0
 have F1:=zz fF1;clear fF1
 have F2:=zz fF2;clear fF2
 have F3:=zz fF3;clear fF3
 have O:=zz (z3a w.heap.size)
 have E:=zz (Env.start w)
 go_enter Tryz.func27,Tryz.ntmps27
 go_wp2_with (first|((with_reducible refine zd (N:=6) rfl ?_);replace O:=zz (And.intro E.1.le O.1);replace E:=zz (E.1.alloc ep 67 (g:=w.heap.size) rfl);replace E:=zz (E.1.alloc eq 67 (g:=(w.heap.size+1)) zq38);refine zf rfl 37 _ rfl w.heap.size 0 [] cp0 (cp1++([vp2]++(cp3++([.bool z.2.2.2.2.1]++[.bool z.2.2.2.2.2])))) _ rfl (E.1.box 1 rfl) zq26 (rfl) Tryz.underlying37 rfl (zq24 Lp0.1) ?_)|((with_reducible refine zd (N:=8) rfl ?_);refine zf rfl 37 _ rfl (w.heap.size+1) 0 [] cq0 (cq1++([vq2]++(cq3++([.bool z.2.2.2.2.1]++[.bool z.2.2.2.2.2])))) _ rfl (E.1.box 0 rfl) zq56 (rfl) Tryz.underlying37 rfl (zq24 Lq0.1) ?_))
 ((with_reducible refine (eqDisk_c k z.1 z.1 true _ (E.1.K Kp0.1) (E.1.K Kq0.1) F0.1).mono ?_);rintro e w1_ ⟨rfl,hb⟩)
 replace E:=zz (E.1.call hb);clear hb
 go_wp2_with (first|((with_reducible refine zd (N:=12) rfl ?_);refine zf rfl 40 _ rfl w.heap.size 2 cp0 cp1 ([vp2]++(cp3++([.bool z.2.2.2.2.1]++[.bool z.2.2.2.2.2]))) _ rfl (E.1.box 1 rfl) zq26 (Lp0.1) Tryz.underlying40 rfl (zq24 Lp1.1) ?_)|((with_reducible refine zd (N:=14) rfl ?_);refine zf rfl 40 _ rfl (w.heap.size+1) 2 cq0 cq1 ([vq2]++(cq3++([.bool z.2.2.2.2.1]++[.bool z.2.2.2.2.2]))) _ rfl (E.1.box 0 rfl) zq56 (Lq0.1) Tryz.underlying40 rfl (zq24 Lq1.1) ?_))
 ((with_reducible refine (eqMeta_c k z.2.1 z.2.1 true _ (E.1.K Kp1.1) (E.1.K Kq1.1) F1.1).mono ?_);rintro e w2_ ⟨rfl,hb⟩)
 replace E:=zz (E.1.call hb);clear hb
 go_wp2_with (first|((with_reducible refine zd (N:=18) rfl ?_);refine zy rfl 65 _ rfl w.heap.size 6 (cp0++cp1) (vp2) (cp3++([.bool z.2.2.2.2.1]++[.bool z.2.2.2.2.2])) rfl (E.1.box 1 rfl) zq26 (zq47 Lp0.1 Lp1.1) Tryz.underlying65 rfl ?_)|((with_reducible refine zd (N:=20) rfl ?_);refine zy rfl 65 _ rfl (w.heap.size+1) 6 (cq0++cq1) (vq2) (cq3++([.bool z.2.2.2.2.1]++[.bool z.2.2.2.2.2])) rfl (E.1.box 0 rfl) zq56 (zq47 Lq0.1 Lq1.1) Tryz.underlying65 rfl ?_))
 ((with_reducible refine (eqReaders_c k z.2.2.1 _ (E.1.K Kp2.1) (E.1.K Kq2.1) F2.1).mono ?_);rintro e w3_ ⟨rfl,hb⟩)
 replace E:=zz (E.1.call hb);clear hb
 go_wp2_with (first|((with_reducible refine zd (N:=24) rfl ?_);refine zf rfl 46 _ rfl w.heap.size 7 (cp0++(cp1++[vp2])) cp3 ([.bool z.2.2.2.2.1]++[.bool z.2.2.2.2.2]) _ rfl (E.1.box 1 rfl) zq26 (zq47 Lp0.1 Lp1.1) Tryz.underlying46 rfl (zq24 Lp3.1) ?_)|((with_reducible refine zd (N:=26) rfl ?_);refine zf rfl 46 _ rfl (w.heap.size+1) 7 (cq0++(cq1++[vq2])) cq3 ([.bool z.2.2.2.2.1]++[.bool z.2.2.2.2.2]) _ rfl (E.1.box 0 rfl) zq56 (zq47 Lq0.1 Lq1.1) Tryz.underlying46 rfl (zq24 Lq3.1) ?_))
 ((with_reducible refine (eqTxn_c k z.2.2.2.1 _ (E.1.K Kp3.1) (E.1.K Kq3.1) F3.1).mono ?_);rintro e w4_ ⟨rfl,hb⟩)
 replace E:=zz (E.1.call hb);clear hb
 go_wp2_with (first|((with_reducible refine zd (N:=30) rfl ?_);refine zy rfl 4 _ rfl w.heap.size 18 (cp0++(cp1++([vp2]++cp3))) (.bool z.2.2.2.2.1) [.bool z.2.2.2.2.2] rfl (E.1.box 1 rfl) zq26 (zq53 Lp0.1 Lp1.1 Lp3.1) Tryz.underlying4 rfl ?_)|((with_reducible refine zd (N:=32) rfl ?_);refine zy rfl 4 _ rfl (w.heap.size+1) 18 (cq0++(cq1++([vq2]++cq3))) (.bool z.2.2.2.2.1) [.bool z.2.2.2.2.2] rfl (E.1.box 0 rfl) zq56 (zq53 Lq0.1 Lq1.1 Lq3.1) Tryz.underlying4 rfl ?_)|((with_reducible refine zd (N:=35) rfl ?_);refine zy rfl 4 _ rfl w.heap.size 19 (cp0++(cp1++([vp2]++(cp3++[.bool z.2.2.2.2.1])))) (.bool z.2.2.2.2.2) [] rfl (E.1.box 1 rfl) zq26 (zq53 Lp0.1 Lp1.1 Lp3.1) Tryz.underlying4 rfl ?_)|((with_reducible refine zd (N:=37) rfl ?_);refine zy rfl 4 _ rfl (w.heap.size+1) 19 (cq0++(cq1++([vq2]++(cq3++[.bool z.2.2.2.2.1])))) (.bool z.2.2.2.2.2) [] rfl (E.1.box 0 rfl) zq56 (zq53 Lq0.1 Lq1.1 Lq3.1) Tryz.underlying4 rfl ?_))
 go_ret
 exact ⟨rfl,E.1.below⟩
def HeldStore (k:Nat) (z:((List ByteArray×List S110)×S40×List S135×(S40×(List ByteArray×List S110×Int×List Int×List Int×List Int)×Int)×Bool×Bool)) (a r:Int):Prop:=∃t1 t2 t3:Int,zKb k z.1 a=some t1∧¬t1<0∧zwb k z.2.1 t1=some t2∧¬t2<0∧laws_heldReaderS.f k z.2.2.1 t2=some t3∧¬t3<0∧HeldTxn k z.2.2.2.1 t3 r∧¬r<0
theorem heldStore_c (k:Nat) (z:((List ByteArray×List S110)×S40×List S135×(S40×(List ByteArray×List S110×Int×List Int×List Int×List Int)×Int)×Bool×Bool)) (a r:Int) {cs:List Value} (w:World) (h:kStore.K w z cs) (hf:HeldStore k z a r):
  Calls Tryz.prog 29 #[.agg cs.toArray,.int .i64 a] w fun e w'=>e= .returned (.int .i64 r)∧Below w.heap.size w w':=by
 have hwp:=h
 obtain ⟨cp0,_,rfl,hp0,cp1,_,rfl,hp1,cp2,_,rfl,hp2,cp3,_,rfl,hp3,cp4,cp5,rfl,hp4,hp5⟩:=h
 have gp2:=hp2;obtain ⟨A_,k_,rfl,-,-⟩:=hp2;obtain ⟨vp2,hv⟩:∃v,v=Value.slice A_ (z.2.2.1).length k_:=⟨_,rfl⟩;rw [←hv] at gp2 hwp ⊢;clear hv
 obtain rfl:cp4=[.bool z.2.2.2.2.1]:=hp4
 obtain rfl:cp5=[.bool z.2.2.2.2.2]:=hp5
 obtain ⟨ep,he⟩:∃cs,cs=cp0++(cp1++([vp2]++(cp3++([.bool z.2.2.2.2.1]++([.bool z.2.2.2.2.2]))))):=⟨_,rfl⟩;rw [←he] at hwp ⊢;have Ep:=zz he;clear he hwp
 have Kp0:=zz hp0;have Lp0:=zz (show cp0.length=2 from Kd.K_len _ hp0);clear hp0
 have Kp1:=zz hp1;have Lp1:=zz (show cp1.length=4 from Kd.K_len _ hp1);clear hp1
 have Kp2:=zz gp2;clear gp2
 have Kp3:=zz hp3;have Lp3:=zz (show cp3.length=11 from Kd.K_len _ hp3);clear hp3
 obtain ⟨t1,t2,t3,f0,n0,f1,n1,f2,n2,f3,n3⟩:=hf
 have F0:=zz f0;clear f0;replace n0:decide (t1<0)=false:=z7 n0
 have F1:=zz f1;clear f1;replace n1:decide (t2<0)=false:=z7 n1
 have F2:=zz f2;clear f2;replace n2:decide (t3<0)=false:=z7 n2
 have F3:=zz f3;clear f3;replace n3:decide (r<0)=false:=z7 n3
 have O:=zz (z3a w.heap.size)
 have E:=zz (Env.start w)
 go_enter Tryz.func29,Tryz.ntmps29
 go_wp2_with (first|((with_reducible refine zd (N:=6) rfl ?_);replace O:=zz (And.intro E.1.le O.1);replace E:=zz (E.1.alloc ep 67 (g:=w.heap.size) rfl);refine zf rfl 37 _ rfl w.heap.size 0 [] cp0 (cp1++([vp2]++(cp3++([.bool z.2.2.2.2.1]++[.bool z.2.2.2.2.2])))) _ rfl (E.1.box 0 rfl) zq26 (rfl) Tryz.underlying37 rfl (zq24 Lp0.1) ?_))
 ((with_reducible refine (heldDisk_c k z.1 a t1 _ (E.1.K Kp0.1) F0.1).mono ?_);rintro e w1_ ⟨rfl,hb⟩)
 replace E:=zz (E.1.call hb);clear hb
 go_wp2_with (first|((with_reducible refine zd (N:=12) rfl ?_);refine zf rfl 40 _ rfl w.heap.size 2 cp0 cp1 ([vp2]++(cp3++([.bool z.2.2.2.2.1]++[.bool z.2.2.2.2.2]))) _ rfl (E.1.box 0 rfl) zq26 (Lp0.1) Tryz.underlying40 rfl (zq24 Lp1.1) ?_))
 ((with_reducible refine (heldMeta_c k z.2.1 t1 t2 _ (E.1.K Kp1.1) F1.1).mono ?_);rintro e w2_ ⟨rfl,hb⟩)
 replace E:=zz (E.1.call hb);clear hb
 go_wp2_with (first|((with_reducible refine zd (N:=18) rfl ?_);refine zy rfl 65 _ rfl w.heap.size 6 (cp0++cp1) (vp2) (cp3++([.bool z.2.2.2.2.1]++[.bool z.2.2.2.2.2])) rfl (E.1.box 0 rfl) zq26 (zq47 Lp0.1 Lp1.1) Tryz.underlying65 rfl ?_))
 ((with_reducible refine (heldReaders_c k z.2.2.1 t2 t3 _ (E.1.K Kp2.1) F2.1).mono ?_);rintro e w3_ ⟨rfl,hb⟩)
 replace E:=zz (E.1.call hb);clear hb
 go_wp2_with (first|((with_reducible refine zd (N:=24) rfl ?_);refine zf rfl 46 _ rfl w.heap.size 7 (cp0++(cp1++[vp2])) cp3 ([.bool z.2.2.2.2.1]++[.bool z.2.2.2.2.2]) _ rfl (E.1.box 0 rfl) zq26 (zq47 Lp0.1 Lp1.1) Tryz.underlying46 rfl (zq24 Lp3.1) ?_))
 ((with_reducible refine (heldTxn_c k z.2.2.2.1 t3 r _ (E.1.K Kp3.1) F3.1).mono ?_);rintro e w4_ ⟨rfl,hb⟩)
 replace E:=zz (E.1.call hb);clear hb
 go_wp2_with fail
 go_ret
 exact ⟨rfl,E.1.below⟩
def ToStore (k:Nat) (a:((List ByteArray×List S156)×S24×List S132×(S24×(List ByteArray×List S156×Int×List Int×List Int×List Int)×Int)×Bool×Bool)) (z:((List ByteArray×List S110)×S40×List S135×(S40×(List ByteArray×List S110×Int×List Int×List Int×List Int)×Int)×Bool×Bool)):Prop:=laws_toDisk.f k a.1.1 a.1.2=some (z.1.1,z.1.2)∧laws_toMeta.f k a.2.1.f0 a.2.1.f1 a.2.1.f2 a.2.1.f3=some (z.2.1.f0,z.2.1.f1,z.2.1.f2,z.2.1.f3)∧laws_toReaderS.f k a.2.2.1=some z.2.2.1∧ToTxn k a.2.2.2.1 z.2.2.2.1∧z.2.2.2.2.1=a.2.2.2.2.1∧z.2.2.2.2.2=a.2.2.2.2.2
theorem toStore_c (k:Nat) (a:((List ByteArray×List S156)×S24×List S132×(S24×(List ByteArray×List S156×Int×List Int×List Int×List Int)×Int)×Bool×Bool)) (z:((List ByteArray×List S110)×S40×List S135×(S40×(List ByteArray×List S110×Int×List Int×List Int×List Int)×Int)×Bool×Bool)) {cs:List Value} (w:World) (h:kStoreL.K w a cs) (hf:ToStore k a z):
  Calls Tryz.prog 25 #[.agg cs.toArray] w fun e w'=>∃ds:List Value,e= .returned (.agg ds.toArray)∧kStore.M w' w.heap.size (Fr w w') z ds∧Below w.heap.size w w':=by
 have hwp:=h
 obtain ⟨cp0,_,rfl,hp0,cp1,_,rfl,hp1,cp2,_,rfl,hp2,cp3,_,rfl,hp3,cp4,cp5,rfl,hp4,hp5⟩:=h
 have gp2:=hp2;obtain ⟨A_,k_,rfl,-,-⟩:=hp2;obtain ⟨vp2,hv⟩:∃v,v=Value.slice A_ (a.2.2.1).length k_:=⟨_,rfl⟩;rw [←hv] at gp2 hwp ⊢;clear hv
 obtain rfl:cp4=[.bool a.2.2.2.2.1]:=hp4
 obtain rfl:cp5=[.bool a.2.2.2.2.2]:=hp5
 obtain ⟨ep,he⟩:∃cs,cs=cp0++(cp1++([vp2]++(cp3++([.bool a.2.2.2.2.1]++([.bool a.2.2.2.2.2]))))):=⟨_,rfl⟩;rw [←he] at hwp ⊢;have Ep:=zz he;clear he hwp
 have Kp0:=zz hp0;have Lp0:=zz (show cp0.length=2 from Kd.K_len _ hp0);clear hp0
 have Kp1:=zz hp1;have Lp1:=zz (show cp1.length=4 from Kd.K_len _ hp1);clear hp1
 have Kp2:=zz gp2;clear gp2
 have Kp3:=zz hp3;have Lp3:=zz (show cp3.length=11 from Kd.K_len _ hp3);clear hp3
 obtain ⟨fF0,fF1,fF2,fF3,fF4,fF5⟩:=hf
 have F0:=zz fF0;clear fF0
 have F1:=zz fF1;clear fF1
 have F2:=zz fF2;clear fF2
 have F3:=zz fF3;clear fF3
 have F4:=zz fF4;clear fF4
 have F5:=zz fF5;clear fF5
 have O:=zz (z3a w.heap.size)
 have E:=zz (Env.start w)
 go_enter Tryz.func25,Tryz.ntmps25
 go_wp2_with (first|((with_reducible refine zd (N:=5) rfl ?_);replace O:=zz (And.intro E.1.le O.1);replace E:=zz (E.1.alloc ep 63 (g:=w.heap.size) rfl);replace E:=zz (E.1.alloc Z67 67 (g:=(w.heap.size+1)) zq38);replace E:=zz (E.1.alloc Z67 67 (g:=(w.heap.size+1+1)) zq38);refine zf rfl 28 _ rfl w.heap.size 0 [] cp0 (cp1++([vp2]++(cp3++([.bool a.2.2.2.2.1]++[.bool a.2.2.2.2.2])))) _ rfl (E.1.box 2 rfl) zq26 (rfl) Tryz.underlying28 rfl (zq24 Lp0.1) ?_))
 ((with_reducible refine (toDisk_c k a.1 z.1 _ (E.1.K Kp0.1) F0.1).mono ?_);rintro e w1_ ⟨d0,rfl,M0,hb⟩)
 have q:=E.1.made4 O.1 2 rfl M0 hb;clear O E M0 hb;obtain ⟨n3_,m4_,L0,Q0,O,E⟩:=q
 go_wp2_with (first|((with_reducible refine zm (t:=37) (p:=7) rfl ?_);refine zn rfl 37 _ _ rfl rfl (w.heap.size+1+1) 0 d0 [] [.slice none 0 0,.slice none 0 0] [.int .i64 0,.int .i64 0,.int .i64 0,.slice none 0 0,.slice none 0 0,.int .i64 0,.int .i64 0,.int .i64 0,.slice none 0 0,.slice none 0 0,.slice none 0 0,.int .i64 0,.slice none 0 0,.slice none 0 0,.slice none 0 0,.int .i64 0,.bool false,.bool false] rfl rfl (E.1.box 1 rfl) zq6 (rfl) (zq40 L0.1) (zq24 L0.1) Q0.1 ?_;intro W5_ hp hn;replace E:=E.1.put2 1 hp hn zq7;clear hp hn)|((with_reducible refine zd (N:=9) rfl ?_);refine zf rfl 24 _ rfl w.heap.size 2 cp0 cp1 ([vp2]++(cp3++([.bool a.2.2.2.2.1]++[.bool a.2.2.2.2.2]))) _ rfl (E.1.box 3 rfl) zq26 (Lp0.1) Tryz.underlying24 rfl (zq24 Lp1.1) ?_))
 ((with_reducible refine (toMeta_o k a.2.1 z.2.1 _ (E.1.K Kp1.1) F1.1).mono ?_);rintro e w6_ ⟨d1,rfl,M1,hb⟩)
 have q:=E.1.made4 O.1 4 rfl M1 hb;clear O E M1 hb;obtain ⟨n8_,m9_,L1,Q1,O,E⟩:=q
 go_wp2_with (first|((with_reducible refine zm (t:=40) (p:=11) rfl ?_);refine zn rfl 40 _ _ rfl rfl (w.heap.size+1+1) 2 d1 d0 [.int .i64 0,.int .i64 0,.int .i64 0,.slice none 0 0] [.slice none 0 0,.int .i64 0,.int .i64 0,.int .i64 0,.slice none 0 0,.slice none 0 0,.slice none 0 0,.int .i64 0,.slice none 0 0,.slice none 0 0,.slice none 0 0,.int .i64 0,.bool false,.bool false] rfl rfl (E.1.box 2 rfl) zq6 (L0.1) (zq40 L1.1) (zq24 L1.1) Q1.1 ?_;intro W10_ hp hn;replace E:=E.1.put2 2 hp hn zq7;clear hp hn)|((with_reducible refine zd (N:=13) rfl ?_);refine zy rfl 61 _ rfl w.heap.size 6 (cp0++cp1) (vp2) (cp3++([.bool a.2.2.2.2.1]++[.bool a.2.2.2.2.2])) rfl (E.1.box 4 rfl) zq26 (zq47 Lp0.1 Lp1.1) Tryz.underlying61 rfl ?_))
 ((with_reducible refine (toReaders_c k a.2.2.1 z.2.2.1 _ (E.1.K Kp2.1) F2.1).mono ?_);rintro e w11_ ⟨d12_,rfl,M2,hb⟩)
 have q:=E.1.made4 O.1 1 rfl M2 hb;clear O E M2 hb;obtain ⟨n13_,m14_,Ld12_,Od12_,O,E⟩:=q
 obtain ⟨B0,e0,hv,-⟩:=E.1.mk_ 0 rfl;injection hv with hv;subst hv
 go_wp2_with (first|((with_reducible refine zm (t:=65) (p:=15) rfl ?_);refine zT rfl 65 _ _ rfl rfl (w.heap.size+1+1) 6 (.slice B0 z.2.2.1.length e0) (.slice none 0 0) (d0++d1) [.int .i64 0,.int .i64 0,.int .i64 0,.slice none 0 0,.slice none 0 0,.slice none 0 0,.int .i64 0,.slice none 0 0,.slice none 0 0,.slice none 0 0,.int .i64 0,.bool false,.bool false] rfl rfl (E.1.box 3 rfl) zq6 (zq47 L0.1 L1.1) zq13 rfl rfl ?_;intro W17_ hp hn;replace E:=E.1.put2 3 hp hn zq7;clear hp hn)|((with_reducible refine zd (N:=17) rfl ?_);refine zf rfl 33 _ rfl w.heap.size 7 (cp0++(cp1++[vp2])) cp3 ([.bool a.2.2.2.2.1]++[.bool a.2.2.2.2.2]) _ rfl (E.1.box 5 rfl) zq26 (zq47 Lp0.1 Lp1.1) Tryz.underlying33 rfl (zq24 Lp3.1) ?_))
 ((with_reducible refine (toTxn_c k a.2.2.2.1 z.2.2.2.1 _ (E.1.K Kp3.1) F3.1).mono ?_);rintro e w18_ ⟨d2,rfl,M3,hb⟩)
 have q:=E.1.made4 O.1 11 rfl M3 hb;clear O E M3 hb;obtain ⟨n20_,m21_,L2,Q2,O,E⟩:=q
 obtain ⟨c0,E0,L3,O0⟩:=lump_ (d0++(d1++([.slice B0 z.2.2.1.length e0]++(d2++([.bool a.2.2.2.2.1]++[.bool a.2.2.2.2.2]))))) 20 (zq53 L2.1 L0.1 L1.1) (zH Q0.1 (zH Q1.1 (zH (zPa rfl) (zH Q2.1 (zH (zPa rfl) (zPa rfl))))))
 go_wp2_with (first|((with_reducible refine zm (t:=46) (p:=19) rfl ?_);refine zn rfl 46 _ _ rfl rfl (w.heap.size+1+1) 7 d2 (d0++(d1++[.slice B0 z.2.2.1.length e0])) [.int .i64 0,.int .i64 0,.int .i64 0,.slice none 0 0,.slice none 0 0,.slice none 0 0,.int .i64 0,.slice none 0 0,.slice none 0 0,.slice none 0 0,.int .i64 0] [.bool false,.bool false] rfl rfl (E.1.box 4 rfl) zq6 (zq47 L0.1 L1.1) (zq40 L2.1) (zq24 L2.1) Q2.1 ?_;intro W22_ hp hn;replace E:=E.1.put2 4 hp hn zq7;clear hp hn)|((with_reducible refine zd (N:=21) rfl ?_);refine zy rfl 4 _ rfl w.heap.size 18 (cp0++(cp1++([vp2]++cp3))) (.bool a.2.2.2.2.1) [.bool a.2.2.2.2.2] rfl (E.1.box 6 rfl) zq26 (zq53 Lp0.1 Lp1.1 Lp3.1) Tryz.underlying4 rfl ?_)|((with_reducible refine zm (t:=4) (p:=22) rfl ?_);refine zT rfl 4 _ _ rfl rfl (w.heap.size+1+1) 18 (.bool a.2.2.2.2.1) (.bool false) (d0++(d1++([.slice B0 z.2.2.1.length e0]++d2))) [.bool false] rfl rfl (E.1.box 4 rfl) zq6 (zq53 L2.1 L0.1 L1.1) zq13 rfl rfl ?_;intro W23_ hp hn;replace E:=E.1.put2 4 hp hn zq7;clear hp hn)|((with_reducible refine zd (N:=24) rfl ?_);refine zy rfl 4 _ rfl w.heap.size 19 (cp0++(cp1++([vp2]++(cp3++[.bool a.2.2.2.2.1])))) (.bool a.2.2.2.2.2) [] rfl (E.1.box 6 rfl) zq26 (zq53 Lp0.1 Lp1.1 Lp3.1) Tryz.underlying4 rfl ?_)|((with_reducible refine zm (t:=4) (p:=25) rfl ?_);refine zT rfl 4 _ _ rfl rfl (w.heap.size+1+1) 19 (.bool a.2.2.2.2.2) (.bool false) (d0++(d1++([.slice B0 z.2.2.1.length e0]++(d2++[.bool a.2.2.2.2.1])))) [] rfl rfl (E.1.box 4 rfl) zq6 (zq53 L2.1 L0.1 L1.1) zq13 rfl rfl ?_;intro W24_ hp hn;replace E:=E.1.put2 4 hp hn zq7;clear hp hn)|((with_reducible refine zd (N:=26) rfl ?_);refine zf rfl 67 _ rfl (w.heap.size+1+1) 0 [] c0 [] _ rfl (E.1.box 4 rfl) (zq62 E0.1) (rfl) Tryz.underlying67 rfl (zq24 L3.1) ?_)|((with_reducible refine zm (t:=67) (p:=2) rfl ?_);refine zn rfl 67 _ _ rfl rfl (w.heap.size+1) 0 c0 [] Z67 [] rfl rfl (E.1.box 5 rfl) zq6 (rfl) (zq40 L3.1) (zq24 L3.1) O0.1 ?_;intro W26_ hp hn;replace E:=E.1.put2 5 hp hn zq7;clear hp hn))
 have BX:=zz (show _=some (Obj.cells (c0:List Value).toArray 67 (0,0)) from by first|exact (E.1.box 5 rfl)|simpa only [aA,aN,aL] using (E.1.box 5 rfl))
 refine bodyPost_ret (zya rfl _ _ (w.heap.size+1) 67 _ _ _ rfl BX.1 Tryz.underlying67 rfl (zq122 L3.1)) rfl ?_
 have e_:((z.1,z.2.1,z.2.2.1,z.2.2.2.1,a.2.2.2.2.1,a.2.2.2.2.2):((List ByteArray×List S110)×S40×List S135×(S40×(List ByteArray×List S110×Int×List Int×List Int×List Int)×Int)×Bool×Bool))=z:=by (try simp only [←F4.1,←F5.1])<;>rfl
 rw [←e_]
 exact ⟨_,rfl,(by rw [E0.1];exact zGb (d:=kStore) (comb (E.1.made 3 rfl) (comb (E.1.made 2 rfl) (comb (E.1.made 1 rfl) (comb (E.1.made 0 rfl) (comb Mbool Mbool (fun k h1 h2=>by have o:=O.1;(try simp only [Iv,true_and,or_false,false_or] at h1 h2)<;>omega)) (fun k h1 h2=>by have o:=O.1;(try simp only [Iv,true_and,or_false,false_or] at h1 h2)<;>omega)) (fun k h1 h2=>by have o:=O.1;(try simp only [Iv,true_and,or_false,false_or] at h1 h2)<;>omega)) (fun k h1 h2=>by have o:=O.1;(try simp only [Iv,true_and,or_false,false_or] at h1 h2)<;>omega)) (fun k h1 h2=>by have o:=O.1;(try simp only [Iv,true_and,or_false,false_or] at h1 h2)<;>omega)) (z3a _)),E.1.below⟩
def cloneTxn_w_T1:Bool×List (List Nat×List Nat):=(true,[([],[]),([0],[0]),([1],[1]),([],[]),([3],[3]),([4,2],[4]),([],[]),([6],[6]),([2,5,7],[2,5,7]),([8,5,0,1,2,3,4,5,6,7,8],[8])])
def cloneTxn_w_B1:List Nat:=[0,1,3,0,8,31,0,64,255,511]
theorem cloneTxn_w_ok1_0:regT (zFa Tryz.f111 1) cloneTxn_w_T1 cloneTxn_w_B1 [] (.p 0 (.t 1 (.p 3 (.t 4 (.p 6 (.t 7 (.e 2 (.e 5 (.p 8 (.e 9 .d))))))))))=true:=zq13
theorem cloneTxn_w (k:Nat) (x:S40) (l0:List ByteArray) (l1:List S110) (l2:Int) (l3 l4 l5:List Int) (n:Int) {cs:List Value} (w:World) (h:kTxn.K w (x,(l0,l1,l2,l3,l4,l5),n) cs) (f1:impl_cloneMeta.f k x.f0 x.f1 x.f2 x.f3=some (x.f0,x.f1,x.f2,x.f3)) (f2:((l0.length≤2000000∧l1.length≤2000000)∧l3.length≤2000000∧l4.length≤2000000∧l5.length≤2000000)):
  Calls Tryz.prog 111 #[.agg cs.toArray] w fun e w'=>∃ds:List Value,e= .returned (.agg ds.toArray)∧kTxn.M w' w.heap.size (Fr w w') (x,(l0,l1,l2,l3,l4,l5),n) ds∧Below w.heap.size w w':=by
 obtain ⟨cM,_,rfl,hM,cW,cI,rfl,hW,hI⟩:=h
 obtain rfl:cI=[.int .i64 n]:=hI
 obtain ⟨cs,hcs⟩:∃cs,cs=cM++(cW++[.int .i64 n]):=⟨_,rfl⟩
 rw [←hcs]
 have Ecs:=zz hcs
 have KM:=zz hM
 have KW:=zz hW
 have LM:=zz (show cM.length=4 from k40.K_len hM)
 have LW:=zz (show cW.length=6 from kWork.K_len hW)
 have F1:=zz f1
 have F2:=zz f2
 clear hM hW f1 f2 hcs
 have O:=zz (z3a w.heap.size)
 have E:=zz (Env.start w)
 go_enter Tryz.func111,Tryz.ntmps111
 go_upto_region 1 with (fail)
 replace O:=zz (And.intro E.1.le O.1)
 replace E:=zz (E.1.alloc cs 46 (g:=w.heap.size) rfl)
 replace E:=zz (E.1.alloc Z46 46 (g:=(w.heap.size+1)) zq38)
 replace E:=zz E.1.drew
 refine zfa cloneTxn_w_ok1_0 (S:=fun w'=>w'.heap[w.heap.size]?=some (.cells (cs:List Value).toArray 46 (0,0))∧True) zq13 (fun _ _ _ _ h=>h) ⟨(E.1.box 1 rfl),trivial⟩ (fun hHeld=> ?_)
 generalize hq:World.drew _=w1_ at hHeld ⊢;replace E:=E.1.to hq;clear hq
 (refine zM (v:= ?_) (a':= ?_) rfl rfl (Or.inl ⟨zq22,zq12⟩) zq2 ?_)
 refine zB (a':= ?_) rfl rfl zq22 40 _ rfl w.heap.size 0 [] cM (cW++[.int .i64 n]) _ rfl (fun w' hs=>hs.1) zq19 (rfl) Tryz.underlying40 rfl zq89 zq2 ?_
 (refine zM (v:= ?_) (a':= ?_) rfl rfl (Or.inl ⟨zq22,zq12⟩) zq2 ?_)
 refine zB (a':= ?_) rfl rfl zq22 44 _ rfl w.heap.size 4 cM cW [.int .i64 n] _ rfl (fun w' hs=>hs.1) zq19 (LM.1) Tryz.underlying44 rfl (by rw [LW.1];kernel_rfl) zq2 ?_
 (refine zM (v:= ?_) (a':= ?_) rfl rfl (Or.inl ⟨zq22,zq12⟩) zq2 ?_)
 refine zL (a':= ?_) rfl rfl zq22 3 _ rfl w.heap.size 10 (cM++cW) (.int .i64 n) [] _ rfl (fun w' hs=>hs.1) zq19 (by simp only [List.length_append,List.length_cons,List.length_nil,LM.1,LW.1]) Tryz.underlying3 rfl zq2 ?_
 refine zS rfl (zC rfl Tryz.func44 zq13 rfl #[.agg cM.toArray] zq22 rfl zq14 ?_)
 with_reducible refine (zdb k x x _ (E.1.K KM.1) F1.1).mono ?_
 rintro e w5_ ⟨d0,rfl,M0,hb⟩
 have q:=E.1.made4 O.1 4 rfl M0 hb;clear O E M0 hb;obtain ⟨n7_,m8_,L0,Q0,O,E⟩:=q
 refine ⟨_,rfl,⟨(E.1.box 2 rfl),trivial⟩,(fun hHeld=> ?_)⟩
 refine zw (a':= ?_) zq2 ?_
 refine zS rfl (zC rfl Tryz.func133 zq13 rfl #[.agg cW.toArray] zq22 rfl zq14 ?_)
 with_reducible refine (cloneWork_c (l0,l1,l2,l3,l4,l5) _ (E.1.K KW.1) F2.1).mono ?_
 rintro e w9_ ⟨d1,rfl,M1,hb⟩
 have q:=E.1.made4 O.1 6 rfl M1 hb;clear O E M1 hb;obtain ⟨n11_,m12_,L1,Q1,O,E⟩:=q
 refine ⟨_,rfl,⟨(E.1.box 3 rfl),trivial⟩,(fun hHeld=> ?_)⟩
 refine zw (a':= ?_) zq2 ?_
 obtain ⟨c0,E0,L2,O0⟩:=lump_ (d0++(d1++[.int .i64 n])) 11 (zq47 L1.1 L0.1) (zH Q0.1 (zH Q1.1 (zPa rfl)))
 refine zM (v:= .agg c0.toArray) (a':= ?_) rfl rfl (Or.inl ⟨zq22,zvb 46 _ rfl Z46 (fun w=>by kernel_rfl) _ Tryz.underlying46 #[(0,4),(4,6),(10,1)] (fun w=>by kernel_rfl) [(0,.agg d0.toArray),(1,.agg d1.toArray),(2,.int .i64 n)] zq71 c0 (zq32 E0.1 L0.1 L1.1)⟩) ?_ ?_;rotate_left;(· show Act.put _ (some _) _=_;simp only [Act.put,s_A,s_0,s_1,zKa];try rfl)
 refine zS rfl (zA rfl zq22 46 _ _ rfl (w.heap.size+1) 0 c0 [] Z46 [] rfl rfl (E.1.box 2 rfl) zq6 (rfl) (zq40 L2.1) (zq24 L2.1) O0.1 (fun W14_ hp hn=> ?_))
 replace E:=E.1.put2 2 hp hn zq7;clear hp hn
 refine ⟨⟨(E.1.box 3 rfl),trivial⟩,(fun hHeld=> ?_)⟩
 refine zX ?_
 clear hHeld
 go_wp2_with fail
 have BX:=zz (show _=some (Obj.cells (c0:List Value).toArray 46 (0,0)) from by first|exact (E.1.box 2 rfl)|simpa only [aA,aN,aL] using (E.1.box 2 rfl))
 refine bodyPost_ret (zya rfl _ _ (w.heap.size+1) 46 _ _ _ rfl BX.1 Tryz.underlying46 rfl (zq121 L2.1)) rfl ?_
 exact ⟨_,rfl,(zq58 E0.1),E.1.below⟩
end Go.Proofs.YtonhdiemjgdcnaaGreat.PFnExactGivePage
