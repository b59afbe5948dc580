import Derived.Test.YtonhdiemjgdcnaaGreatCC11
set_option maxHeartbeats 64000000
set_option maxRecDepth 100000
set_option linter.unusedVariables false
set_option linter.unusedSimpArgs false
namespace Go.Proofs.YtonhdiemjgdcnaaGreat.PFnExactGivePage
open Go.RowKit Go.Proofs.YtonhdiemjgdcnaaGreatW.PrintWords Go.Proofs.YtonhdiemjgdcnaaGreatW.PrintLast Go.Proofs.YtonhdiemjgdcnaaGreatW.PrintMore
attribute [local go_sem] zba zga zoa zna zW zV zfa zea
theorem cutS_1 (k:Nat) (y:S40) (l0:List ByteArray) (l1:List S110) (l2:Int) (l3 l4 l5:List Int) (n:Int) (stage:Int) (left:List Bool) (torn:Int) (q:(List ByteArray×List S110)) (m:S40) (b:Bool) {cs:List Value} {v:Value} (w:World) (h:kTxn.K w (y,(l0,l1,l2,l3,l4,l5),n) cs) (hl:(Own.srow 4 Kd.bool).K w left [v]) (fn:SpecNM k (y,(l0,l1,l2,l3,l4,l5),n) m b) (fi:zab (y,(l0,l1,l2,l3,l4,l5),n)=true) (ff:spec_FallDisk.f k l0 l1 left torn=some (q.1,q.2)):
  Calls Tryz.prog 18 #[.agg cs.toArray,.int .i64 stage,v,.int .i64 torn] w fun e w'=>∃ds:List Value,e= .returned (.agg ds.toArray)∧kDisk.M w' w.heap.size (Fr w w') q ds∧Below w.heap.size w w':=by
 have KS0:=h
 obtain ⟨cM,_,rfl,hM,cW_,cI,rfl,hW_,hI⟩:=h
 obtain rfl:cI=[.int .i64 n]:=hI
 obtain ⟨u0,_,rfl,hU0,u1,cW2,rfl,hU1,hW2⟩:=hW_
 have hV0:=hU0
 have hV1:=hU1
 obtain ⟨B0,d0,rfl,-,-⟩:=hU0
 obtain ⟨B1,d1,rfl,-,-⟩:=hU1
 obtain ⟨cs,hcs⟩:∃cs,cs=cM++([.slice B0 l0.length d0]++([.slice B1 l1.length d1]++(cW2++[.int .i64 n]))):=⟨_,rfl⟩
 simp only [List.append_assoc] at KS0 ⊢
 rw [←hcs] at KS0 ⊢
 have Ecs:=zz hcs
 have KS:=zz KS0
 have KM:=zz hM;have KW0:=zz (show (Own.srow 9 Kd.string).K w l0 [.slice B0 l0.length d0] from hV0);have KW1:=zz (show (Own.srow 110 k110).K w l1 [.slice B1 l1.length d1] from hV1);have KW2:=zz hW2
 have LM:=zz (show cM.length=4 from Kd.K_len _ hM);have LW2:=zz (show cW2.length=4 from Kd.K_len _ hW2);have Lcs:=zz (show cs.length=11 from Kd.K_len _ KS0)
 have FN:=zz fn;clear fn
 have FI:=zz fi;clear fi
 have FF:=zz ff;clear ff
 clear KS0 hM hV0 hV1 hW2 hcs
 have KL:=zz hl
 obtain ⟨AL,cL,hvl,-,-⟩:=hl
 injection hvl with hvl
 subst hvl
 have O:=zz (Nat.le_refl w.heap.size)
 have E:=zz (Env.start w)
 go_enter Tryz.func18,Tryz.ntmps18
 go_wp2_with (first|((with_reducible refine zv (N:=16) rfl ?_);replace O:=zz (And.intro E.out.le O.out);replace E:=zz (E.out.alloc cs 46 (g:=w.heap.size) rfl);replace E:=zz (E.out.alloc [.slice none 0 0,.slice none 0 0] 37 (g:=(w.heap.size+1)) zq15);refine zy rfl 46 _ rfl w.heap.size 0 [] cs [] _ rfl (E.out.box 1 rfl) zq8 (rfl) Tryz.underlying46 rfl zq28 ?_))
 ((with_reducible refine (specNM_c k (y,(l0,l1,l2,l3,l4,l5),n) m b _ (E.out.K KS.out) FN.out).mono ?_);rintro e w1_ ⟨d2_,rfl,Md2_,hb⟩)
 have q:=E.out.made4 O.out 4 rfl Md2_ hb;clear O E Md2_ hb;obtain ⟨n3_,m4_,Ld2_,Od2_,O,E⟩:=q
 go_wp2_with (first|((with_reducible refine zC (t:=40) (p:=9) rfl ?_);replace O:=zz (And.intro E.out.le O.out);replace E:=zz (E.out.alloc Z40 40 (g:=w1_.heap.size) rfl);refine zD rfl 40 _ _ rfl rfl w1_.heap.size 0 d2_ [] Z40 [] rfl rfl (E.out.box 0 rfl) zq8 (rfl) zq41 zq33 Od2_.out ?_;intro W5_ hp hn;replace E:=E.out.put2 0 hp hn zq10;clear hp hn)|((with_reducible refine zv (N:=20) rfl ?_);refine zy rfl 46 _ rfl w.heap.size 0 [] cs [] _ rfl (E.out.box 3 rfl) zq8 (rfl) Tryz.underlying46 rfl zq28 ?_))
 ((with_reducible refine (idleS_d y l0 l1 l2 l3 l4 l5 n true _ (E.out.K KS.out) FI.out).mono ?_);rintro e w6_ ⟨rfl,hb⟩)
 replace E:=zz (E.out.call hb);clear hb
 go_wp2_with (first|((with_reducible refine zv (N:=32) rfl ?_);refine zy rfl 37 _ rfl w.heap.size 4 cM [.slice B0 l0.length d0,.slice B1 l1.length d1] (cW2++[.int .i64 n]) _ rfl (E.out.box 3 rfl) zq29 (LM.out) Tryz.underlying37 rfl zq7 ?_))
 ((with_reducible refine (zib k (l0,l1) left torn q _ (zta (E.out.K KW0.out) (E.out.K KW1.out)) (E.out.K KL.out) FF.out).mono ?_);rintro e w7_ ⟨d8_,rfl,Md8_,hb⟩)
 have q:=E.out.made4 O.out 2 rfl Md8_ hb;clear O E Md8_ hb;obtain ⟨n9_,m10_,Ld8_,Od8_,O,E⟩:=q
 go_wp2_with (first|((with_reducible refine zC (t:=37) (p:=8) rfl ?_);refine zD rfl 37 _ _ rfl rfl (w.heap.size+1) 0 d8_ [] [.slice none 0 0,.slice none 0 0] [] rfl rfl (E.out.box 3 rfl) zq8 (rfl) zq60 zq48 Od8_.out ?_;intro W11_ hp hn;replace E:=E.out.put2 3 hp hn zq10;clear hp hn))
 have BX:=zz (show _=some (Obj.cells (d8_:List Value).toArray 37 (0,0)) from by first|exact (E.out.box 3 rfl)|simpa only [aA,aN,aL] using (E.out.box 3 rfl))
 refine bodyPost_ret (zY rfl _ _ (w.heap.size+1) 37 _ _ _ rfl BX.out Tryz.underlying37 rfl zq39) rfl ?_
 exact ⟨_,rfl,(zjb (d:=kDisk) (E.out.made 0 rfl) (Nat.le_refl _)),E.out.below⟩
theorem cutS_2 (k:Nat) (y:S40) (l0:List ByteArray) (l1:List S110) (l2:Int) (l3 l4 l5:List Int) (n:Int) (stage:Int) (left:List Bool) (torn:Int) (q:(List ByteArray×List S110)) (m:S40) {cs:List Value} {v:Value} (w:World) (h:kTxn.K w (y,(l0,l1,l2,l3,l4,l5),n) cs) (hl:(Own.srow 4 Kd.bool).K w left [v]) (fn:SpecNM k (y,(l0,l1,l2,l3,l4,l5),n) m false) (fi:zab (y,(l0,l1,l2,l3,l4,l5),n)=false) (ff:spec_FallDisk.f k l0 l1 left torn=some (q.1,q.2)):
  Calls Tryz.prog 18 #[.agg cs.toArray,.int .i64 stage,v,.int .i64 torn] w fun e w'=>∃ds:List Value,e= .returned (.agg ds.toArray)∧kDisk.M w' w.heap.size (Fr w w') q ds∧Below w.heap.size w w':=by
 have KS0:=h
 obtain ⟨cM,_,rfl,hM,cW_,cI,rfl,hW_,hI⟩:=h
 obtain rfl:cI=[.int .i64 n]:=hI
 obtain ⟨u0,_,rfl,hU0,u1,cW2,rfl,hU1,hW2⟩:=hW_
 have hV0:=hU0
 have hV1:=hU1
 obtain ⟨B0,d0,rfl,-,-⟩:=hU0
 obtain ⟨B1,d1,rfl,-,-⟩:=hU1
 obtain ⟨cs,hcs⟩:∃cs,cs=cM++([.slice B0 l0.length d0]++([.slice B1 l1.length d1]++(cW2++[.int .i64 n]))):=⟨_,rfl⟩
 simp only [List.append_assoc] at KS0 ⊢
 rw [←hcs] at KS0 ⊢
 have Ecs:=zz hcs
 have KS:=zz KS0
 have KM:=zz hM;have KW0:=zz (show (Own.srow 9 Kd.string).K w l0 [.slice B0 l0.length d0] from hV0);have KW1:=zz (show (Own.srow 110 k110).K w l1 [.slice B1 l1.length d1] from hV1);have KW2:=zz hW2
 have LM:=zz (show cM.length=4 from Kd.K_len _ hM);have LW2:=zz (show cW2.length=4 from Kd.K_len _ hW2);have Lcs:=zz (show cs.length=11 from Kd.K_len _ KS0)
 have FN:=zz fn;clear fn
 have FI:=zz fi;clear fi
 have FF:=zz ff;clear ff
 clear KS0 hM hV0 hV1 hW2 hcs
 have KL:=zz hl
 obtain ⟨AL,cL,hvl,-,-⟩:=hl
 injection hvl with hvl
 subst hvl
 have O:=zz (Nat.le_refl w.heap.size)
 have E:=zz (Env.start w)
 go_enter Tryz.func18,Tryz.ntmps18
 go_wp2_with (first|((with_reducible refine zv (N:=16) rfl ?_);replace O:=zz (And.intro E.out.le O.out);replace E:=zz (E.out.alloc cs 46 (g:=w.heap.size) rfl);replace E:=zz (E.out.alloc [.slice none 0 0,.slice none 0 0] 37 (g:=(w.heap.size+1)) zq15);refine zy rfl 46 _ rfl w.heap.size 0 [] cs [] _ rfl (E.out.box 1 rfl) zq8 (rfl) Tryz.underlying46 rfl zq28 ?_))
 ((with_reducible refine (specNM_c k (y,(l0,l1,l2,l3,l4,l5),n) m false _ (E.out.K KS.out) FN.out).mono ?_);rintro e w1_ ⟨d2_,rfl,Md2_,hb⟩)
 have q:=E.out.made4 O.out 4 rfl Md2_ hb;clear O E Md2_ hb;obtain ⟨n3_,m4_,Ld2_,Od2_,O,E⟩:=q
 go_wp2_with (first|((with_reducible refine zC (t:=40) (p:=9) rfl ?_);replace O:=zz (And.intro E.out.le O.out);replace E:=zz (E.out.alloc Z40 40 (g:=w1_.heap.size) rfl);refine zD rfl 40 _ _ rfl rfl w1_.heap.size 0 d2_ [] Z40 [] rfl rfl (E.out.box 0 rfl) zq8 (rfl) zq41 zq33 Od2_.out ?_;intro W5_ hp hn;replace E:=E.out.put2 0 hp hn zq10;clear hp hn)|((with_reducible refine zv (N:=20) rfl ?_);refine zy rfl 46 _ rfl w.heap.size 0 [] cs [] _ rfl (E.out.box 3 rfl) zq8 (rfl) Tryz.underlying46 rfl zq28 ?_))
 ((with_reducible refine (idleS_d y l0 l1 l2 l3 l4 l5 n false _ (E.out.K KS.out) FI.out).mono ?_);rintro e w6_ ⟨rfl,hb⟩)
 replace E:=zz (E.out.call hb);clear hb
 go_wp2_with (first|((with_reducible refine zv (N:=32) rfl ?_);refine zy rfl 37 _ rfl w.heap.size 4 cM [.slice B0 l0.length d0,.slice B1 l1.length d1] (cW2++[.int .i64 n]) _ rfl (E.out.box 3 rfl) zq29 (LM.out) Tryz.underlying37 rfl zq7 ?_))
 ((with_reducible refine (zib k (l0,l1) left torn q _ (zta (E.out.K KW0.out) (E.out.K KW1.out)) (E.out.K KL.out) FF.out).mono ?_);rintro e w7_ ⟨d8_,rfl,Md8_,hb⟩)
 have q:=E.out.made4 O.out 2 rfl Md8_ hb;clear O E Md8_ hb;obtain ⟨n9_,m10_,Ld8_,Od8_,O,E⟩:=q
 go_wp2_with (first|((with_reducible refine zC (t:=37) (p:=8) rfl ?_);refine zD rfl 37 _ _ rfl rfl (w.heap.size+1) 0 d8_ [] [.slice none 0 0,.slice none 0 0] [] rfl rfl (E.out.box 3 rfl) zq8 (rfl) zq60 zq48 Od8_.out ?_;intro W11_ hp hn;replace E:=E.out.put2 3 hp hn zq10;clear hp hn))
 have BX:=zz (show _=some (Obj.cells (d8_:List Value).toArray 37 (0,0)) from by first|exact (E.out.box 3 rfl)|simpa only [aA,aN,aL] using (E.out.box 3 rfl))
 refine bodyPost_ret (zY rfl _ _ (w.heap.size+1) 37 _ _ _ rfl BX.out Tryz.underlying37 rfl zq39) rfl ?_
 exact ⟨_,rfl,(zjb (d:=kDisk) (E.out.made 0 rfl) (Nat.le_refl _)),E.out.below⟩
theorem cutS_3 (k:Nat) (y:S40) (l0:List ByteArray) (l1:List S110) (l2:Int) (l3 l4 l5:List Int) (n:Int) (left:List Bool) (torn:Int) (q:(List ByteArray×List S110)) (m:S40) {cs:List Value} {v:Value} (w:World) (h:kTxn.K w (y,(l0,l1,l2,l3,l4,l5),n) cs) (hl:(Own.srow 4 Kd.bool).K w left [v]) (fn:SpecNM k (y,(l0,l1,l2,l3,l4,l5),n) m true) (fi:zab (y,(l0,l1,l2,l3,l4,l5),n)=false) (ff:spec_FallDisk.f k l0 l1 left torn=some (q.1,q.2)):
  Calls Tryz.prog 18 #[.agg cs.toArray,.int .i64 0,v,.int .i64 torn] w fun e w'=>∃ds:List Value,e= .returned (.agg ds.toArray)∧kDisk.M w' w.heap.size (Fr w w') q ds∧Below w.heap.size w w':=by
 have KS0:=h
 obtain ⟨cM,_,rfl,hM,cW_,cI,rfl,hW_,hI⟩:=h
 obtain rfl:cI=[.int .i64 n]:=hI
 obtain ⟨u0,_,rfl,hU0,u1,cW2,rfl,hU1,hW2⟩:=hW_
 have hV0:=hU0
 have hV1:=hU1
 obtain ⟨B0,d0,rfl,-,-⟩:=hU0
 obtain ⟨B1,d1,rfl,-,-⟩:=hU1
 obtain ⟨cs,hcs⟩:∃cs,cs=cM++([.slice B0 l0.length d0]++([.slice B1 l1.length d1]++(cW2++[.int .i64 n]))):=⟨_,rfl⟩
 simp only [List.append_assoc] at KS0 ⊢
 rw [←hcs] at KS0 ⊢
 have Ecs:=zz hcs
 have KS:=zz KS0
 have KM:=zz hM;have KW0:=zz (show (Own.srow 9 Kd.string).K w l0 [.slice B0 l0.length d0] from hV0);have KW1:=zz (show (Own.srow 110 k110).K w l1 [.slice B1 l1.length d1] from hV1);have KW2:=zz hW2
 have LM:=zz (show cM.length=4 from Kd.K_len _ hM);have LW2:=zz (show cW2.length=4 from Kd.K_len _ hW2);have Lcs:=zz (show cs.length=11 from Kd.K_len _ KS0)
 have FN:=zz fn;clear fn
 have FI:=zz fi;clear fi
 have FF:=zz ff;clear ff
 clear KS0 hM hV0 hV1 hW2 hcs
 have KL:=zz hl
 obtain ⟨AL,cL,hvl,-,-⟩:=hl
 injection hvl with hvl
 subst hvl
 have O:=zz (Nat.le_refl w.heap.size)
 have E:=zz (Env.start w)
 go_enter Tryz.func18,Tryz.ntmps18
 go_wp2_with (first|((with_reducible refine zv (N:=16) rfl ?_);replace O:=zz (And.intro E.out.le O.out);replace E:=zz (E.out.alloc cs 46 (g:=w.heap.size) rfl);replace E:=zz (E.out.alloc [.slice none 0 0,.slice none 0 0] 37 (g:=(w.heap.size+1)) zq15);refine zy rfl 46 _ rfl w.heap.size 0 [] cs [] _ rfl (E.out.box 1 rfl) zq8 (rfl) Tryz.underlying46 rfl zq28 ?_))
 ((with_reducible refine (specNM_c k (y,(l0,l1,l2,l3,l4,l5),n) m true _ (E.out.K KS.out) FN.out).mono ?_);rintro e w1_ ⟨d2_,rfl,Md2_,hb⟩)
 have q:=E.out.made4 O.out 4 rfl Md2_ hb;clear O E Md2_ hb;obtain ⟨n3_,m4_,Ld2_,Od2_,O,E⟩:=q
 go_wp2_with (first|((with_reducible refine zC (t:=40) (p:=9) rfl ?_);replace O:=zz (And.intro E.out.le O.out);replace E:=zz (E.out.alloc Z40 40 (g:=w1_.heap.size) rfl);refine zD rfl 40 _ _ rfl rfl w1_.heap.size 0 d2_ [] Z40 [] rfl rfl (E.out.box 0 rfl) zq8 (rfl) zq41 zq33 Od2_.out ?_;intro W5_ hp hn;replace E:=E.out.put2 0 hp hn zq10;clear hp hn)|((with_reducible refine zv (N:=20) rfl ?_);refine zy rfl 46 _ rfl w.heap.size 0 [] cs [] _ rfl (E.out.box 3 rfl) zq8 (rfl) Tryz.underlying46 rfl zq28 ?_))
 ((with_reducible refine (idleS_d y l0 l1 l2 l3 l4 l5 n false _ (E.out.K KS.out) FI.out).mono ?_);rintro e w6_ ⟨rfl,hb⟩)
 replace E:=zz (E.out.call hb);clear hb
 go_wp2_with (first|((with_reducible refine zv (N:=32) rfl ?_);refine zy rfl 37 _ rfl w.heap.size 4 cM [.slice B0 l0.length d0,.slice B1 l1.length d1] (cW2++[.int .i64 n]) _ rfl (E.out.box 3 rfl) zq29 (LM.out) Tryz.underlying37 rfl zq7 ?_))
 ((with_reducible refine (zib k (l0,l1) left torn q _ (zta (E.out.K KW0.out) (E.out.K KW1.out)) (E.out.K KL.out) FF.out).mono ?_);rintro e w7_ ⟨d8_,rfl,Md8_,hb⟩)
 have q:=E.out.made4 O.out 2 rfl Md8_ hb;clear O E Md8_ hb;obtain ⟨n9_,m10_,Ld8_,Od8_,O,E⟩:=q
 go_wp2_with (first|((with_reducible refine zC (t:=37) (p:=8) rfl ?_);refine zD rfl 37 _ _ rfl rfl (w.heap.size+1) 0 d8_ [] [.slice none 0 0,.slice none 0 0] [] rfl rfl (E.out.box 3 rfl) zq8 (rfl) zq60 zq48 Od8_.out ?_;intro W11_ hp hn;replace E:=E.out.put2 3 hp hn zq10;clear hp hn))
 have BX:=zz (show _=some (Obj.cells (d8_:List Value).toArray 37 (0,0)) from by first|exact (E.out.box 3 rfl)|simpa only [aA,aN,aL] using (E.out.box 3 rfl))
 refine bodyPost_ret (zY rfl _ _ (w.heap.size+1) 37 _ _ _ rfl BX.out Tryz.underlying37 rfl zq39) rfl ?_
 exact ⟨_,rfl,(zjb (d:=kDisk) (E.out.made 0 rfl) (Nat.le_refl _)),E.out.below⟩
def cutS_b_T5:Bool×List (List Nat×List Nat):=(true,[([],[]),([0],[0]),([1],[1]),([2],[2]),([],[]),([4],[4]),([5,3],[5]),([],[]),([3,6,7,6],[3,6,7]),([8],[8]),([9],[9]),([9],[9]),([],[]),([12,10,8,0,1,2,3,4,5,6,7,8,9,10,12],[10,12]),([11,13,0,1,2,3,4,5,6,7,8,9,10,11,12,13],[11])])
def cutS_b_B5:List Nat:=[0,1,3,7,0,16,63,0,255,511,1023,1023,0,6143,16383]
theorem cutS_b_ok5_0:regT (zkb Tryz.f18 5) cutS_b_T5 cutS_b_B5 [13] (.p 0 (.p 1 (.t 2 (.p 4 (.t 5 (.p 7 (.two 3 12 (.two 6 12 (.two 8 12 (.p 9 (.p 10 (.p 11 (.e 12 (.l 13 (.p 14 .d)))))) (.e 8 (.p 9 (.p 10 (.p 11 (.l 13 (.p 14 .d))))))) (.e 6 (.e 8 (.p 9 (.p 10 (.p 11 (.l 13 (.p 14 .d)))))))) (.e 3 (.e 6 (.e 8 (.p 9 (.p 10 (.p 11 (.l 13 (.p 14 .d)))))))))))))))=true:=by kernel_rfl
theorem cutS_b (k:Nat) (y:S40) (l0:List ByteArray) (l1:List S110) (l2:Int) (l3 l4 l5:List Int) (n:Int) (stage:Int) (left:List Bool) (torn:Int) (q:(List ByteArray×List S110)) (m:S40) (t:ByteArray) (ok:Bool) (e0:List ByteArray) (e1:List S110) {cs:List Value} {v:Value} (w:World) (h:kTxn.K w (y,(l0,l1,l2,l3,l4,l5),n) cs) (hl:(Own.srow 4 Kd.bool).K w left [v]) (fn:SpecNM k (y,(l0,l1,l2,l3,l4,l5),n) m true) (fi:zab (y,(l0,l1,l2,l3,l4,l5),n)=false) (ft:∃(vt:Int→ByteArray) (sl:ByteArray→ByteArray),TxF k vt sl∧MTxt vt sl m t ok) (fs:spec_SyncDisk.f k l0 l1=some (e0,e1)) (fx:0≤m.f0∧m.f0≤100000) (fe:e0.length≤2000000∧e1.length≤2000000) (fd:spec_DiskOk.f k e0 e1=some false) (ff:spec_FallDisk.f k e0 e1 left torn=some (q.1,q.2)) (hg:stage≠0):
    Calls Tryz.prog 18 #[.agg cs.toArray,.int .i64 stage,v,.int .i64 torn] w fun e w'=>∃ds:List Value,e= .returned (.agg ds.toArray)∧kDisk.M w' w.heap.size (Fr w w') q ds∧Below w.heap.size w w':=by
  replace hg:(stage==0)=false:=beq_eq_false_iff_ne.2 hg
  have KS0:=h
  obtain ⟨cM,_,rfl,hM,cW_,cI,rfl,hW_,hI⟩:=h
  obtain rfl:cI=[.int .i64 n]:=hI
  obtain ⟨u0,_,rfl,hU0,u1,cW2,rfl,hU1,hW2⟩:=hW_
  have hV0:=hU0
  have hV1:=hU1
  obtain ⟨B0,d0,rfl,-,-⟩:=hU0
  obtain ⟨B1,d1,rfl,-,-⟩:=hU1
  obtain ⟨cs,hcs⟩:∃cs,cs=cM++([.slice B0 l0.length d0]++([.slice B1 l1.length d1]++(cW2++[.int .i64 n]))):=⟨_,rfl⟩
  simp only [List.append_assoc] at KS0 ⊢
  rw [←hcs] at KS0 ⊢
  have Ecs:=zz hcs
  have KS:=zz KS0
  have KM:=zz hM;have KW0:=zz (show (Own.srow 9 Kd.string).K w l0 [.slice B0 l0.length d0] from hV0);have KW1:=zz (show (Own.srow 110 k110).K w l1 [.slice B1 l1.length d1] from hV1);have KW2:=zz hW2
  have LM:=zz (show cM.length=4 from Kd.K_len _ hM);have LW2:=zz (show cW2.length=4 from Kd.K_len _ hW2);have Lcs:=zz (show cs.length=11 from Kd.K_len _ KS0)
  have FN:=zz fn;clear fn
  have FI:=zz fi;clear fi
  have FT:=zz ft;clear ft
  have FS:=zz fs;clear fs
  have FX:=zz fx;clear fx
  have FE:=zz fe;clear fe
  have FD:=zz fd;clear fd
  have FF:=zz ff;clear ff
  clear KS0 hM hV0 hV1 hW2 hcs
  have KL:=zz hl
  obtain ⟨AL,cL,hvl,-,-⟩:=hl
  injection hvl with hvl
  subst hvl
  have O:=zz (Nat.le_refl w.heap.size)
  have E:=zz (Env.start w)
  go_enter Tryz.func18,Tryz.ntmps18
  go_wp2_with (first|((with_reducible refine zv (N:=16) rfl ?_);replace O:=zz (And.intro E.out.le O.out);replace E:=zz (E.out.alloc cs 46 (g:=w.heap.size) rfl);replace E:=zz (E.out.alloc [.slice none 0 0,.slice none 0 0] 37 (g:=(w.heap.size+1)) zq15);refine zy rfl 46 _ rfl w.heap.size 0 [] cs [] _ rfl (E.out.box 1 rfl) zq8 (rfl) Tryz.underlying46 rfl zq28 ?_))
  ((with_reducible refine (specNM_c k (y,(l0,l1,l2,l3,l4,l5),n) m true _ (E.out.K KS.out) FN.out).mono ?_);rintro e w1_ ⟨d2_,rfl,Md2_,hb⟩)
  have Ld2_:=zz (show d2_.length=4 from Kd.K_len _ (Kd.K_of_M _ Md2_));have Od2_:=zz (one_of_K (Kd.K_of_M _ Md2_))
  obtain ⟨n3_,m4_,hT,hE⟩:=E.out.made_ Md2_ hb;replace O:=zz (And.intro hT O.out);replace E:=zz hE;clear hT hE Md2_ hb
  obtain ⟨AG,cG,hg⟩:=meta_lit (E.out.made 0 rfl);have Ed2_:=zz hg;clear hg
  go_wp2_with (first|((with_reducible refine zC (t:=40) (p:=9) rfl ?_);replace O:=zz (And.intro E.out.le O.out);replace E:=zz (E.out.alloc Z40 40 (g:=w1_.heap.size) rfl);refine zD rfl 40 _ _ rfl rfl w1_.heap.size 0 d2_ [] Z40 [] rfl rfl (E.out.box 0 rfl) zq8 (rfl) zq41 zq33 Od2_.out ?_;intro W5_ hp hn;replace E:=E.out.put2 0 hp hn zq10;clear hp hn)|((with_reducible refine zv (N:=20) rfl ?_);refine zy rfl 46 _ rfl w.heap.size 0 [] cs [] _ rfl (E.out.box 3 rfl) zq8 (rfl) Tryz.underlying46 rfl zq28 ?_))
  ((with_reducible refine (idleS_d y l0 l1 l2 l3 l4 l5 n false _ (E.out.K KS.out) FI.out).mono ?_);rintro e w6_ ⟨rfl,hb⟩)
  replace E:=zz (E.out.call hb);clear hb
  go_wp2_with (first|((with_reducible refine zv (N:=37) rfl ?_);refine zy rfl 40 _ rfl w1_.heap.size 0 [] d2_ [] _ rfl (E.out.box 0 rfl) zq8 (rfl) Tryz.underlying40 rfl zq33 ?_))
  ((with_reducible refine (metaTextS_c k m t ok _ (E.out.mk_ 1 rfl) FT.out).mono ?_);rintro e w7_ ⟨rfl,hb⟩)
  replace E:=zz (E.out.call hb);clear hb
  go_upto_region 5 with (fail)
  replace E:=zz E.out.drew
  refine zgb cutS_b_ok5_0 (S:=fun w'=>w'.heap[w.heap.size]?=some (.cells (cs:List Value).toArray 46 (0,0))∧w'.heap[w1_.heap.size]?=some (.cells (([]++(d2_++[])):List Value).toArray 40 (0,0))∧True) zq7 (fun _ _ _ _ h=>h) ⟨(E.out.box 3 rfl),(E.out.box 0 rfl),trivial⟩ (fun hHeld=> ?_)
  generalize hq:World.drew _=w8_ at hHeld ⊢;replace E:=E.out.to hq;clear hq
  iterate 2 (refine zua (v:= ?_) (a':= ?_) rfl rfl (Or.inl ⟨by rfl,?_⟩) ?_ ?_;rotate_left;(· intro w';go_simp;with_reducible rfl);rotate_left;(· show Act.put _ (some _) _=_;simp only [Act.put,s_A,s_0,s_1,zA];try rfl))
  refine zNa (a':= ?ax9_) rfl rfl zq19 37 _ rfl w.heap.size 4 cM [.slice B0 l0.length d0,.slice B1 l1.length d1] (cW2++[.int .i64 n]) _ rfl (fun w' hs=>hs.1) zq29 (LM.out) Tryz.underlying37 rfl zq7 ?px9_ ?kx9_
  case px9_=>(show Act.put _ (some _) _=_;simp only [Act.put,s_A,s_0,s_1,zA];try rfl)
  (refine zua (v:= ?_) (a':= ?_) rfl rfl (Or.inl ⟨by rfl,?_⟩) ?_ ?_;rotate_left;(· intro w';go_simp;with_reducible rfl);rotate_left;(· show Act.put _ (some _) _=_;simp only [Act.put,s_A,s_0,s_1,zA];try rfl))
  refine zza (a':= ?ax10_) rfl rfl zq19 3 _ rfl w1_.heap.size 0 [] (.int .i64 m.f0) ([.int .i64 m.f1]++([.int .i64 m.f2]++[.slice AG m.f3.length cG])) _ rfl (fun w' hs=>hs.2.1) (by simp only [aA,aN,aL];rw [Ed2_.out];first|done|rfl|(simp only [aA,aN,aL];first|done|rfl)) (rfl) Tryz.underlying3 rfl ?px10_ ?kx10_
  case px10_=>(show Act.put _ (some _) _=_;simp only [Act.put,s_A,s_0,s_1,zA];try rfl)
  (refine zua (v:= ?_) (a':= ?_) rfl rfl (Or.inl ⟨by rfl,?_⟩) ?_ ?_;rotate_left;(· intro w';go_simp;with_reducible rfl);rotate_left;(· show Act.put _ (some _) _=_;simp only [Act.put,s_A,s_0,s_1,zA];try rfl))
  refine zEb rfl rfl (zZ rfl Tryz.func33 zq7 rfl #[.agg [.slice B0 l0.length d0,.slice B1 l1.length d1].toArray] zq19 rfl zq13 ?_) (zCa rfl zq19 37 rfl [.slice none 0 0,.slice none 0 0] zq7 ?_)
  ·
    with_reducible refine (specSync_o k l0 l1 e0 e1 _ (zta (E.out.K KW0.out) (E.out.K KW1.out)) FS.out).mono ?_
    rintro e w11_ ⟨d12_,rfl,Md12_,hb⟩
    have q:=E.out.made4 O.out 2 rfl Md12_ hb;clear O E Md12_ hb;obtain ⟨n13_,m14_,Ld12_,Od12_,O,E⟩:=q
    refine ⟨_,rfl,⟨(E.out.box 4 rfl),(E.out.box 1 rfl),trivial⟩,(fun hHeld=> ?_)⟩
    refine zK (a':= ?_) ?_ ?_;rotate_left;(· show Act.put _ (some 45) _=_;simp only [Act.put,s_A,s_0,s_1,zA];try rfl)
    refine zEb rfl rfl (zZ rfl Tryz.func39 zq7 rfl #[.int .i64 m.f0] zq19 rfl zq13 ?_) (zCa rfl zq19 37 rfl [.slice none 0 0,.slice none 0 0] zq7 ?_)
    ·
      with_reducible refine (pageS_c m.f0 _ FX.out).mono ?_
      rintro e w15_ ⟨rfl,hb⟩
      replace E:=zz (E.out.call hb);clear hb
      refine ⟨_,rfl,⟨(E.out.box 4 rfl),(E.out.box 1 rfl),trivial⟩,(fun hHeld=> ?_)⟩
      refine zK (a':= ?_) ?_ ?_;rotate_left;(· show Act.put _ (some 48) _=_;simp only [Act.put,s_A,s_0,s_1,zA];try rfl)
      refine zEb rfl rfl (zZ rfl Tryz.func38 zq7 rfl #[.agg d12_.toArray,.int .i64 (m.f0%2),.string t] zq19 rfl zq13 ?_) (zCa rfl zq19 37 rfl [.slice none 0 0,.slice none 0 0] zq7 ?_)
      ·
        with_reducible refine (writeS_no k e0 e1 (m.f0%2) t _ (E.out.mk_ 0 rfl) FE.out FD.out).mono ?_
        rintro e w16_ ⟨d17_,rfl,Md17_,hb⟩
        have q:=E.out.made4 O.out 2 rfl Md17_ hb;clear O E Md17_ hb;obtain ⟨n18_,m19_,Ld17_,Od17_,O,E⟩:=q
        refine ⟨_,rfl,⟨(E.out.box 5 rfl),(E.out.box 2 rfl),trivial⟩,(fun hHeld=> ?_)⟩
        refine zK (a':= ?_) ?_ ?_;rotate_left;(· show Act.put _ (some 50) _=_;simp only [Act.put,s_A,s_0,s_1,zA];try rfl)
        iterate 3 (refine zua (v:= ?_) (a':= ?_) rfl rfl (Or.inl ⟨by rfl,?_⟩) ?_ ?_;rotate_left;(· intro w';go_simp;with_reducible rfl);rotate_left;(· show Act.put _ (some _) _=_;simp only [Act.put,s_A,s_0,s_1,zA];try rfl))
        refine zQa rfl (zCa rfl zq19 37 rfl [.slice none 0 0,.slice none 0 0] zq7 ?_)
        replace O:=zz (And.intro E.out.le O.out)
        replace E:=zz (E.out.alloc [.slice none 0 0,.slice none 0 0] 37 (g:=w16_.heap.size) rfl)
        refine ⟨⟨(E.out.box 6 rfl),(E.out.box 3 rfl),trivial⟩,(fun hHeld=> ?_)⟩
        refine zK (a':= ?_) ?_ ?_;rotate_left;(· show Act.put _ (some 13) _=_;simp only [Act.put,s_A,s_0,s_1,zA];try rfl)
        generalize (w16_.alloc (.cells [.slice none 0 0,.slice none 0 0].toArray 37))=w20_ at E hHeld ⊢
        refine tre_l rfl (zT rfl zq19 37 _ _ rfl w16_.heap.size 0 d17_ [] [.slice none 0 0,.slice none 0 0] [] rfl rfl (E.out.box 0 rfl) zq8 (rfl) (by rw [Ld17_.out];rfl) (by rw [Ld17_.out];kernel_rfl) Od17_.out (fun W21_ hp hn=> ?_))
        replace E:=E.out.put2 0 hp hn zq10;clear hp hn
        (refine zua (v:= ?_) (a':= ?_) rfl rfl (Or.inl ⟨by rfl,?_⟩) ?_ ?_;rotate_left;(· intro w';go_simp;with_reducible rfl);rotate_left;(· show Act.put _ (some _) _=_;simp only [Act.put,s_A,s_0,s_1,zA];try rfl))
        refine zAa ?_
        clear hHeld
        go_wp2_with (first|((with_reducible refine zv (N:=53) rfl ?_);refine zy rfl 37 _ rfl w16_.heap.size 0 [] d17_ [] _ rfl (E.out.box 0 rfl) zq8 (rfl) Tryz.underlying37 rfl (by rw [Ld17_.out];kernel_rfl) ?_))
        ((with_reducible refine (zib k (e0,e1) left torn q _ (E.out.mk_ 1 rfl) (E.out.K KL.out) FF.out).mono ?_);rintro e w22_ ⟨d23_,rfl,Md23_,hb⟩)
        have q:=E.out.made4 O.out 2 rfl Md23_ hb;clear O E Md23_ hb;obtain ⟨n24_,m25_,Ld23_,Od23_,O,E⟩:=q
        go_wp2_with (first|((with_reducible refine zC (t:=37) (p:=8) rfl ?_);refine zD rfl 37 _ _ rfl rfl (w.heap.size+1) 0 d23_ [] [.slice none 0 0,.slice none 0 0] [] rfl rfl (E.out.box 6 rfl) zq8 (rfl) (by rw [Ld23_.out];rfl) (by rw [Ld23_.out];kernel_rfl) Od23_.out ?_;intro W26_ hp hn;replace E:=E.out.put2 6 hp hn zq10;clear hp hn))
        have BX:=zz (show _=some (Obj.cells (d23_:List Value).toArray 37 (0,0)) from by first|exact (E.out.box 6 rfl)|simpa only [aA,aN,aL] using (E.out.box 6 rfl))
        refine bodyPost_ret (zY rfl _ _ (w.heap.size+1) 37 _ _ _ rfl BX.out Tryz.underlying37 rfl (by rw [List.size_toArray,show (d23_:List Value).length=2 from Ld23_.out];kernel_rfl)) rfl ?_
        exact ⟨_,rfl,(zjb (d:=kDisk) (E.out.made 0 rfl) (Nat.le_refl _)),E.out.below⟩
      ·
        replace O:=zz (And.intro E.out.le O.out)
        replace E:=zz (E.out.alloc [.slice none 0 0,.slice none 0 0] 37 (g:=w15_.heap.size) rfl)
        refine ⟨⟨(E.out.box 5 rfl),(E.out.box 2 rfl),trivial⟩,(fun hHeld=> ?_)⟩
        refine zK (a':= ?_) ?_ ?_;rotate_left;(· show Act.put _ (some 13) _=_;simp only [Act.put,s_A,s_0,s_1,zA];try rfl)
        generalize (w15_.alloc (.cells [.slice none 0 0,.slice none 0 0].toArray 37))=w27_ at E hHeld ⊢
        refine zQa rfl (zZ rfl Tryz.func38 zq7 rfl #[.agg d12_.toArray,.int .i64 (m.f0%2),.string t] zq19 rfl zq13 ?_)
        with_reducible refine (writeS_no k e0 e1 (m.f0%2) t _ (E.out.mk_ 1 rfl) FE.out FD.out).mono ?_
        rintro e w28_ ⟨d29_,rfl,Md29_,hb⟩
        have q:=E.out.made4 O.out 2 rfl Md29_ hb;clear O E Md29_ hb;obtain ⟨n30_,m31_,Ld29_,Od29_,O,E⟩:=q
        refine ⟨_,rfl,⟨(E.out.box 6 rfl),(E.out.box 3 rfl),trivial⟩,(fun hHeld=> ?_)⟩
        refine zK (a':= ?_) ?_ ?_;rotate_left;(· show Act.put _ (some 50) _=_;simp only [Act.put,s_A,s_0,s_1,zA];try rfl)
        iterate 3 (refine zua (v:= ?_) (a':= ?_) rfl rfl (Or.inl ⟨by rfl,?_⟩) ?_ ?_;rotate_left;(· intro w';go_simp;with_reducible rfl);rotate_left;(· show Act.put _ (some _) _=_;simp only [Act.put,s_A,s_0,s_1,zA];try rfl))
        refine tre_l rfl (zT rfl zq19 37 _ _ rfl w15_.heap.size 0 d29_ [] [.slice none 0 0,.slice none 0 0] [] rfl rfl (E.out.box 1 rfl) zq8 (rfl) (by rw [Ld29_.out];rfl) zq46 Od29_.out (fun W32_ hp hn=> ?_))
        replace E:=E.out.put2 1 hp hn zq10;clear hp hn
        (refine zua (v:= ?_) (a':= ?_) rfl rfl (Or.inl ⟨by rfl,?_⟩) ?_ ?_;rotate_left;(· intro w';go_simp;with_reducible rfl);rotate_left;(· show Act.put _ (some _) _=_;simp only [Act.put,s_A,s_0,s_1,zA];try rfl))
        refine zAa ?_
        clear hHeld
        go_wp2_with (first|((with_reducible refine zv (N:=53) rfl ?_);refine zy rfl 37 _ rfl w15_.heap.size 0 [] d29_ [] _ rfl (E.out.box 1 rfl) zq8 (rfl) Tryz.underlying37 rfl zq46 ?_))
        ((with_reducible refine (zib k (e0,e1) left torn q _ (E.out.mk_ 0 rfl) (E.out.K KL.out) FF.out).mono ?_);rintro e w33_ ⟨d34_,rfl,Md34_,hb⟩)
        have q:=E.out.made4 O.out 2 rfl Md34_ hb;clear O E Md34_ hb;obtain ⟨n35_,m36_,Ld34_,Od34_,O,E⟩:=q
        go_wp2_with (first|((with_reducible refine zC (t:=37) (p:=8) rfl ?_);refine zD rfl 37 _ _ rfl rfl (w.heap.size+1) 0 d34_ [] [.slice none 0 0,.slice none 0 0] [] rfl rfl (E.out.box 6 rfl) zq8 (rfl) (by rw [Ld34_.out];rfl) (by rw [Ld34_.out];kernel_rfl) Od34_.out ?_;intro W37_ hp hn;replace E:=E.out.put2 6 hp hn zq10;clear hp hn))
        have BX:=zz (show _=some (Obj.cells (d34_:List Value).toArray 37 (0,0)) from by first|exact (E.out.box 6 rfl)|simpa only [aA,aN,aL] using (E.out.box 6 rfl))
        refine bodyPost_ret (zY rfl _ _ (w.heap.size+1) 37 _ _ _ rfl BX.out Tryz.underlying37 rfl (by rw [List.size_toArray,show (d34_:List Value).length=2 from Ld34_.out];kernel_rfl)) rfl ?_
        exact ⟨_,rfl,(zjb (d:=kDisk) (E.out.made 0 rfl) (Nat.le_refl _)),E.out.below⟩
    ·
      replace O:=zz (And.intro E.out.le O.out)
      replace E:=zz (E.out.alloc [.slice none 0 0,.slice none 0 0] 37 (g:=w11_.heap.size) rfl)
      refine ⟨⟨(E.out.box 5 rfl),(E.out.box 2 rfl),trivial⟩,(fun hHeld=> ?_)⟩
      refine zK (a':= ?_) ?_ ?_;rotate_left;(· show Act.put _ (some 13) _=_;simp only [Act.put,s_A,s_0,s_1,zA];try rfl)
      generalize (w11_.alloc (.cells [.slice none 0 0,.slice none 0 0].toArray 37))=w38_ at E hHeld ⊢
      refine zQa rfl (zZ rfl Tryz.func39 zq7 rfl #[.int .i64 m.f0] zq19 rfl zq13 ?_)
      with_reducible refine (pageS_c m.f0 _ FX.out).mono ?_
      rintro e w39_ ⟨rfl,hb⟩
      replace E:=zz (E.out.call hb);clear hb
      refine ⟨_,rfl,⟨(E.out.box 5 rfl),(E.out.box 2 rfl),trivial⟩,(fun hHeld=> ?_)⟩
      refine zK (a':= ?_) ?_ ?_;rotate_left;(· show Act.put _ (some 48) _=_;simp only [Act.put,s_A,s_0,s_1,zA];try rfl)
      refine zQa rfl (zZ rfl Tryz.func38 zq7 rfl #[.agg d12_.toArray,.int .i64 (m.f0%2),.string t] zq19 rfl zq13 ?_)
      with_reducible refine (writeS_no k e0 e1 (m.f0%2) t _ (E.out.mk_ 1 rfl) FE.out FD.out).mono ?_
      rintro e w40_ ⟨d41_,rfl,Md41_,hb⟩
      have q:=E.out.made4 O.out 2 rfl Md41_ hb;clear O E Md41_ hb;obtain ⟨n42_,m43_,Ld41_,Od41_,O,E⟩:=q
      refine ⟨_,rfl,⟨(E.out.box 6 rfl),(E.out.box 3 rfl),trivial⟩,(fun hHeld=> ?_)⟩
      refine zK (a':= ?_) ?_ ?_;rotate_left;(· show Act.put _ (some 50) _=_;simp only [Act.put,s_A,s_0,s_1,zA];try rfl)
      iterate 3 (refine zua (v:= ?_) (a':= ?_) rfl rfl (Or.inl ⟨by rfl,?_⟩) ?_ ?_;rotate_left;(· intro w';go_simp;with_reducible rfl);rotate_left;(· show Act.put _ (some _) _=_;simp only [Act.put,s_A,s_0,s_1,zA];try rfl))
      refine tre_l rfl (zT rfl zq19 37 _ _ rfl w11_.heap.size 0 d41_ [] [.slice none 0 0,.slice none 0 0] [] rfl rfl (E.out.box 1 rfl) zq8 (rfl) (by rw [Ld41_.out];rfl) (by rw [Ld41_.out];kernel_rfl) Od41_.out (fun W44_ hp hn=> ?_))
      replace E:=E.out.put2 1 hp hn zq10;clear hp hn
      (refine zua (v:= ?_) (a':= ?_) rfl rfl (Or.inl ⟨by rfl,?_⟩) ?_ ?_;rotate_left;(· intro w';go_simp;with_reducible rfl);rotate_left;(· show Act.put _ (some _) _=_;simp only [Act.put,s_A,s_0,s_1,zA];try rfl))
      refine zAa ?_
      clear hHeld
      go_wp2_with (first|((with_reducible refine zv (N:=53) rfl ?_);refine zy rfl 37 _ rfl w11_.heap.size 0 [] d41_ [] _ rfl (E.out.box 1 rfl) zq8 (rfl) Tryz.underlying37 rfl (by rw [Ld41_.out];kernel_rfl) ?_))
      ((with_reducible refine (zib k (e0,e1) left torn q _ (E.out.mk_ 0 rfl) (E.out.K KL.out) FF.out).mono ?_);rintro e w45_ ⟨d46_,rfl,Md46_,hb⟩)
      have q:=E.out.made4 O.out 2 rfl Md46_ hb;clear O E Md46_ hb;obtain ⟨n47_,m48_,Ld46_,Od46_,O,E⟩:=q
      go_wp2_with (first|((with_reducible refine zC (t:=37) (p:=8) rfl ?_);refine zD rfl 37 _ _ rfl rfl (w.heap.size+1) 0 d46_ [] [.slice none 0 0,.slice none 0 0] [] rfl rfl (E.out.box 6 rfl) zq8 (rfl) (by rw [Ld46_.out];rfl) (by rw [Ld46_.out];kernel_rfl) Od46_.out ?_;intro W49_ hp hn;replace E:=E.out.put2 6 hp hn zq10;clear hp hn))
      have BX:=zz (show _=some (Obj.cells (d46_:List Value).toArray 37 (0,0)) from by first|exact (E.out.box 6 rfl)|simpa only [aA,aN,aL] using (E.out.box 6 rfl))
      refine bodyPost_ret (zY rfl _ _ (w.heap.size+1) 37 _ _ _ rfl BX.out Tryz.underlying37 rfl (by rw [List.size_toArray,show (d46_:List Value).length=2 from Ld46_.out];kernel_rfl)) rfl ?_
      exact ⟨_,rfl,(zjb (d:=kDisk) (E.out.made 0 rfl) (Nat.le_refl _)),E.out.below⟩
  ·
    replace O:=zz (And.intro E.out.le O.out)
    replace E:=zz (E.out.alloc [.slice none 0 0,.slice none 0 0] 37 (g:=w8_.heap.size) rfl)
    refine ⟨⟨(E.out.box 4 rfl),(E.out.box 1 rfl),trivial⟩,(fun hHeld=> ?_)⟩
    refine zK (a':= ?_) ?_ ?_;rotate_left;(· show Act.put _ (some 13) _=_;simp only [Act.put,s_A,s_0,s_1,zA];try rfl)
    generalize (w8_.alloc (.cells [.slice none 0 0,.slice none 0 0].toArray 37))=w50_ at E hHeld ⊢
    refine zQa rfl (zZ rfl Tryz.func33 zq7 rfl #[.agg [.slice B0 l0.length d0,.slice B1 l1.length d1].toArray] zq19 rfl zq13 ?_)
    with_reducible refine (specSync_o k l0 l1 e0 e1 _ (zta (E.out.K KW0.out) (E.out.K KW1.out)) FS.out).mono ?_
    rintro e w51_ ⟨d52_,rfl,Md52_,hb⟩
    have q:=E.out.made4 O.out 2 rfl Md52_ hb;clear O E Md52_ hb;obtain ⟨n53_,m54_,Ld52_,Od52_,O,E⟩:=q
    refine ⟨_,rfl,⟨(E.out.box 5 rfl),(E.out.box 2 rfl),trivial⟩,(fun hHeld=> ?_)⟩
    refine zK (a':= ?_) ?_ ?_;rotate_left;(· show Act.put _ (some 45) _=_;simp only [Act.put,s_A,s_0,s_1,zA];try rfl)
    refine zQa rfl (zZ rfl Tryz.func39 zq7 rfl #[.int .i64 m.f0] zq19 rfl zq13 ?_)
    with_reducible refine (pageS_c m.f0 _ FX.out).mono ?_
    rintro e w55_ ⟨rfl,hb⟩
    replace E:=zz (E.out.call hb);clear hb
    refine ⟨_,rfl,⟨(E.out.box 5 rfl),(E.out.box 2 rfl),trivial⟩,(fun hHeld=> ?_)⟩
    refine zK (a':= ?_) ?_ ?_;rotate_left;(· show Act.put _ (some 48) _=_;simp only [Act.put,s_A,s_0,s_1,zA];try rfl)
    refine zQa rfl (zZ rfl Tryz.func38 zq7 rfl #[.agg d52_.toArray,.int .i64 (m.f0%2),.string t] zq19 rfl zq13 ?_)
    with_reducible refine (writeS_no k e0 e1 (m.f0%2) t _ (E.out.mk_ 0 rfl) FE.out FD.out).mono ?_
    rintro e w56_ ⟨d57_,rfl,Md57_,hb⟩
    have q:=E.out.made4 O.out 2 rfl Md57_ hb;clear O E Md57_ hb;obtain ⟨n58_,m59_,Ld57_,Od57_,O,E⟩:=q
    refine ⟨_,rfl,⟨(E.out.box 6 rfl),(E.out.box 3 rfl),trivial⟩,(fun hHeld=> ?_)⟩
    refine zK (a':= ?_) ?_ ?_;rotate_left;(· show Act.put _ (some 50) _=_;simp only [Act.put,s_A,s_0,s_1,zA];try rfl)
    iterate 3 (refine zua (v:= ?_) (a':= ?_) rfl rfl (Or.inl ⟨by rfl,?_⟩) ?_ ?_;rotate_left;(· intro w';go_simp;with_reducible rfl);rotate_left;(· show Act.put _ (some _) _=_;simp only [Act.put,s_A,s_0,s_1,zA];try rfl))
    refine tre_l rfl (zT rfl zq19 37 _ _ rfl w8_.heap.size 0 d57_ [] [.slice none 0 0,.slice none 0 0] [] rfl rfl (E.out.box 2 rfl) zq8 (rfl) (by rw [Ld57_.out];rfl) (by rw [Ld57_.out];kernel_rfl) Od57_.out (fun W60_ hp hn=> ?_))
    replace E:=E.out.put2 2 hp hn zq10;clear hp hn
    (refine zua (v:= ?_) (a':= ?_) rfl rfl (Or.inl ⟨by rfl,?_⟩) ?_ ?_;rotate_left;(· intro w';go_simp;with_reducible rfl);rotate_left;(· show Act.put _ (some _) _=_;simp only [Act.put,s_A,s_0,s_1,zA];try rfl))
    refine zAa ?_
    clear hHeld
    go_wp2_with (first|((with_reducible refine zv (N:=53) rfl ?_);refine zy rfl 37 _ rfl w8_.heap.size 0 [] d57_ [] _ rfl (E.out.box 2 rfl) zq8 (rfl) Tryz.underlying37 rfl (by rw [Ld57_.out];kernel_rfl) ?_))
    ((with_reducible refine (zib k (e0,e1) left torn q _ (E.out.mk_ 0 rfl) (E.out.K KL.out) FF.out).mono ?_);rintro e w61_ ⟨d62_,rfl,Md62_,hb⟩)
    have q:=E.out.made4 O.out 2 rfl Md62_ hb;clear O E Md62_ hb;obtain ⟨n63_,m64_,Ld62_,Od62_,O,E⟩:=q
    go_wp2_with (first|((with_reducible refine zC (t:=37) (p:=8) rfl ?_);refine zD rfl 37 _ _ rfl rfl (w.heap.size+1) 0 d62_ [] [.slice none 0 0,.slice none 0 0] [] rfl rfl (E.out.box 6 rfl) zq8 (rfl) (by rw [Ld62_.out];rfl) (by rw [Ld62_.out];kernel_rfl) Od62_.out ?_;intro W65_ hp hn;replace E:=E.out.put2 6 hp hn zq10;clear hp hn))
    have BX:=zz (show _=some (Obj.cells (d62_:List Value).toArray 37 (0,0)) from by first|exact (E.out.box 6 rfl)|simpa only [aA,aN,aL] using (E.out.box 6 rfl))
    refine bodyPost_ret (zY rfl _ _ (w.heap.size+1) 37 _ _ _ rfl BX.out Tryz.underlying37 rfl (by rw [List.size_toArray,show (d62_:List Value).length=2 from Ld62_.out];kernel_rfl)) rfl ?_
    exact ⟨_,rfl,(zjb (d:=kDisk) (E.out.made 0 rfl) (Nat.le_refl _)),E.out.below⟩
def cutS_c_T5:Bool×List (List Nat×List Nat):=(true,[([],[]),([0],[0]),([1],[1]),([2],[2]),([],[]),([4],[4]),([5,3],[5]),([],[]),([3,6,7,6],[3,6,7]),([8],[8]),([9],[9]),([9],[9]),([],[]),([12,10,8,0,1,2,3,4,5,6,7,8,9,10,12],[10,12]),([11,13,0,1,2,3,4,5,6,7,8,9,10,11,12,13],[11])])
def cutS_c_B5:List Nat:=[0,1,3,7,0,16,63,0,255,511,1023,1023,0,6143,16383]
theorem cutS_c_ok5_0:regT (zkb Tryz.f18 5) cutS_c_T5 cutS_c_B5 [13] (.p 0 (.p 1 (.t 2 (.p 4 (.t 5 (.p 7 (.two 3 12 (.two 6 12 (.two 8 12 (.p 9 (.p 10 (.p 11 (.e 12 (.l 13 (.p 14 .d)))))) (.e 8 (.p 9 (.p 10 (.p 11 (.l 13 (.p 14 .d))))))) (.e 6 (.e 8 (.p 9 (.p 10 (.p 11 (.l 13 (.p 14 .d)))))))) (.e 3 (.e 6 (.e 8 (.p 9 (.p 10 (.p 11 (.l 13 (.p 14 .d)))))))))))))))=true:=by kernel_rfl
theorem cutS_c (k:Nat) (y:S40) (l0:List ByteArray) (l1:List S110) (l2:Int) (l3 l4 l5:List Int) (n:Int) (stage:Int) (left:List Bool) (torn:Int) (q:(List ByteArray×List S110)) (m:S40) (t:ByteArray) (ok:Bool) (e0:List ByteArray) (e1:List S110) (z:(List ByteArray×List S110)) {cs:List Value} {v:Value} (w:World) (h:kTxn.K w (y,(l0,l1,l2,l3,l4,l5),n) cs) (hl:(Own.srow 4 Kd.bool).K w left [v]) (fn:SpecNM k (y,(l0,l1,l2,l3,l4,l5),n) m true) (fi:zab (y,(l0,l1,l2,l3,l4,l5),n)=false) (ft:∃(vt:Int→ByteArray) (sl:ByteArray→ByteArray),TxF k vt sl∧MTxt vt sl m t ok) (fs:spec_SyncDisk.f k l0 l1=some (e0,e1)) (fx:0≤m.f0∧m.f0≤100000) (fw:spec_WritePage.f k e0 e1 (m.f0%2) t=some (z.1,z.2,true)) (ff:spec_FallDisk.f k z.1 z.2 left torn=some (q.1,q.2)) (hg:stage≠0):
    Calls Tryz.prog 18 #[.agg cs.toArray,.int .i64 stage,v,.int .i64 torn] w fun e w'=>∃ds:List Value,e= .returned (.agg ds.toArray)∧kDisk.M w' w.heap.size (Fr w w') q ds∧Below w.heap.size w w':=by
  replace hg:(stage==0)=false:=beq_eq_false_iff_ne.2 hg
  have KS0:=h
  obtain ⟨cM,_,rfl,hM,cW_,cI,rfl,hW_,hI⟩:=h
  obtain rfl:cI=[.int .i64 n]:=hI
  obtain ⟨u0,_,rfl,hU0,u1,cW2,rfl,hU1,hW2⟩:=hW_
  have hV0:=hU0
  have hV1:=hU1
  obtain ⟨B0,d0,rfl,-,-⟩:=hU0
  obtain ⟨B1,d1,rfl,-,-⟩:=hU1
  obtain ⟨cs,hcs⟩:∃cs,cs=cM++([.slice B0 l0.length d0]++([.slice B1 l1.length d1]++(cW2++[.int .i64 n]))):=⟨_,rfl⟩
  simp only [List.append_assoc] at KS0 ⊢
  rw [←hcs] at KS0 ⊢
  have Ecs:=zz hcs
  have KS:=zz KS0
  have KM:=zz hM;have KW0:=zz (show (Own.srow 9 Kd.string).K w l0 [.slice B0 l0.length d0] from hV0);have KW1:=zz (show (Own.srow 110 k110).K w l1 [.slice B1 l1.length d1] from hV1);have KW2:=zz hW2
  have LM:=zz (show cM.length=4 from Kd.K_len _ hM);have LW2:=zz (show cW2.length=4 from Kd.K_len _ hW2);have Lcs:=zz (show cs.length=11 from Kd.K_len _ KS0)
  have FN:=zz fn;clear fn
  have FI:=zz fi;clear fi
  have FT:=zz ft;clear ft
  have FS:=zz fs;clear fs
  have FX:=zz fx;clear fx
  have FW:=zz fw;clear fw
  have FF:=zz ff;clear ff
  clear KS0 hM hV0 hV1 hW2 hcs
  have KL:=zz hl
  obtain ⟨AL,cL,hvl,-,-⟩:=hl
  injection hvl with hvl
  subst hvl
  have O:=zz (Nat.le_refl w.heap.size)
  have E:=zz (Env.start w)
  go_enter Tryz.func18,Tryz.ntmps18
  go_wp2_with (first|((with_reducible refine zv (N:=16) rfl ?_);replace O:=zz (And.intro E.out.le O.out);replace E:=zz (E.out.alloc cs 46 (g:=w.heap.size) rfl);replace E:=zz (E.out.alloc [.slice none 0 0,.slice none 0 0] 37 (g:=(w.heap.size+1)) zq15);refine zy rfl 46 _ rfl w.heap.size 0 [] cs [] _ rfl (E.out.box 1 rfl) zq8 (rfl) Tryz.underlying46 rfl zq28 ?_))
  ((with_reducible refine (specNM_c k (y,(l0,l1,l2,l3,l4,l5),n) m true _ (E.out.K KS.out) FN.out).mono ?_);rintro e w1_ ⟨d2_,rfl,Md2_,hb⟩)
  have Ld2_:=zz (show d2_.length=4 from Kd.K_len _ (Kd.K_of_M _ Md2_));have Od2_:=zz (one_of_K (Kd.K_of_M _ Md2_))
  obtain ⟨n3_,m4_,hT,hE⟩:=E.out.made_ Md2_ hb;replace O:=zz (And.intro hT O.out);replace E:=zz hE;clear hT hE Md2_ hb
  obtain ⟨AG,cG,hg⟩:=meta_lit (E.out.made 0 rfl);have Ed2_:=zz hg;clear hg
  go_wp2_with (first|((with_reducible refine zC (t:=40) (p:=9) rfl ?_);replace O:=zz (And.intro E.out.le O.out);replace E:=zz (E.out.alloc Z40 40 (g:=w1_.heap.size) rfl);refine zD rfl 40 _ _ rfl rfl w1_.heap.size 0 d2_ [] Z40 [] rfl rfl (E.out.box 0 rfl) zq8 (rfl) zq41 zq33 Od2_.out ?_;intro W5_ hp hn;replace E:=E.out.put2 0 hp hn zq10;clear hp hn)|((with_reducible refine zv (N:=20) rfl ?_);refine zy rfl 46 _ rfl w.heap.size 0 [] cs [] _ rfl (E.out.box 3 rfl) zq8 (rfl) Tryz.underlying46 rfl zq28 ?_))
  ((with_reducible refine (idleS_d y l0 l1 l2 l3 l4 l5 n false _ (E.out.K KS.out) FI.out).mono ?_);rintro e w6_ ⟨rfl,hb⟩)
  replace E:=zz (E.out.call hb);clear hb
  go_wp2_with (first|((with_reducible refine zv (N:=37) rfl ?_);refine zy rfl 40 _ rfl w1_.heap.size 0 [] d2_ [] _ rfl (E.out.box 0 rfl) zq8 (rfl) Tryz.underlying40 rfl zq33 ?_))
  ((with_reducible refine (metaTextS_c k m t ok _ (E.out.mk_ 1 rfl) FT.out).mono ?_);rintro e w7_ ⟨rfl,hb⟩)
  replace E:=zz (E.out.call hb);clear hb
  go_upto_region 5 with (fail)
  replace E:=zz E.out.drew
  refine zgb cutS_c_ok5_0 (S:=fun w'=>w'.heap[w.heap.size]?=some (.cells (cs:List Value).toArray 46 (0,0))∧w'.heap[w1_.heap.size]?=some (.cells (([]++(d2_++[])):List Value).toArray 40 (0,0))∧True) zq7 (fun _ _ _ _ h=>h) ⟨(E.out.box 3 rfl),(E.out.box 0 rfl),trivial⟩ (fun hHeld=> ?_)
  generalize hq:World.drew _=w8_ at hHeld ⊢;replace E:=E.out.to hq;clear hq
  iterate 2 (refine zua (v:= ?_) (a':= ?_) rfl rfl (Or.inl ⟨by rfl,?_⟩) ?_ ?_;rotate_left;(· intro w';go_simp;with_reducible rfl);rotate_left;(· show Act.put _ (some _) _=_;simp only [Act.put,s_A,s_0,s_1,zA];try rfl))
  refine zNa (a':= ?ax9_) rfl rfl zq19 37 _ rfl w.heap.size 4 cM [.slice B0 l0.length d0,.slice B1 l1.length d1] (cW2++[.int .i64 n]) _ rfl (fun w' hs=>hs.1) zq29 (LM.out) Tryz.underlying37 rfl zq7 ?px9_ ?kx9_
  case px9_=>(show Act.put _ (some _) _=_;simp only [Act.put,s_A,s_0,s_1,zA];try rfl)
  (refine zua (v:= ?_) (a':= ?_) rfl rfl (Or.inl ⟨by rfl,?_⟩) ?_ ?_;rotate_left;(· intro w';go_simp;with_reducible rfl);rotate_left;(· show Act.put _ (some _) _=_;simp only [Act.put,s_A,s_0,s_1,zA];try rfl))
  refine zza (a':= ?ax10_) rfl rfl zq19 3 _ rfl w1_.heap.size 0 [] (.int .i64 m.f0) ([.int .i64 m.f1]++([.int .i64 m.f2]++[.slice AG m.f3.length cG])) _ rfl (fun w' hs=>hs.2.1) (by simp only [aA,aN,aL];rw [Ed2_.out];first|done|rfl|(simp only [aA,aN,aL];first|done|rfl)) (rfl) Tryz.underlying3 rfl ?px10_ ?kx10_
  case px10_=>(show Act.put _ (some _) _=_;simp only [Act.put,s_A,s_0,s_1,zA];try rfl)
  (refine zua (v:= ?_) (a':= ?_) rfl rfl (Or.inl ⟨by rfl,?_⟩) ?_ ?_;rotate_left;(· intro w';go_simp;with_reducible rfl);rotate_left;(· show Act.put _ (some _) _=_;simp only [Act.put,s_A,s_0,s_1,zA];try rfl))
  refine zEb rfl rfl (zZ rfl Tryz.func33 zq7 rfl #[.agg [.slice B0 l0.length d0,.slice B1 l1.length d1].toArray] zq19 rfl zq13 ?_) (zCa rfl zq19 37 rfl [.slice none 0 0,.slice none 0 0] zq7 ?_)
  ·
    with_reducible refine (specSync_o k l0 l1 e0 e1 _ (zta (E.out.K KW0.out) (E.out.K KW1.out)) FS.out).mono ?_
    rintro e w11_ ⟨d12_,rfl,Md12_,hb⟩
    have q:=E.out.made4 O.out 2 rfl Md12_ hb;clear O E Md12_ hb;obtain ⟨n13_,m14_,Ld12_,Od12_,O,E⟩:=q
    refine ⟨_,rfl,⟨(E.out.box 4 rfl),(E.out.box 1 rfl),trivial⟩,(fun hHeld=> ?_)⟩
    refine zK (a':= ?_) ?_ ?_;rotate_left;(· show Act.put _ (some 45) _=_;simp only [Act.put,s_A,s_0,s_1,zA];try rfl)
    refine zEb rfl rfl (zZ rfl Tryz.func39 zq7 rfl #[.int .i64 m.f0] zq19 rfl zq13 ?_) (zCa rfl zq19 37 rfl [.slice none 0 0,.slice none 0 0] zq7 ?_)
    ·
      with_reducible refine (pageS_c m.f0 _ FX.out).mono ?_
      rintro e w15_ ⟨rfl,hb⟩
      replace E:=zz (E.out.call hb);clear hb
      refine ⟨_,rfl,⟨(E.out.box 4 rfl),(E.out.box 1 rfl),trivial⟩,(fun hHeld=> ?_)⟩
      refine zK (a':= ?_) ?_ ?_;rotate_left;(· show Act.put _ (some 48) _=_;simp only [Act.put,s_A,s_0,s_1,zA];try rfl)
      refine zEb rfl rfl (zZ rfl Tryz.func38 zq7 rfl #[.agg d12_.toArray,.int .i64 (m.f0%2),.string t] zq19 rfl zq13 ?_) (zCa rfl zq19 37 rfl [.slice none 0 0,.slice none 0 0] zq7 ?_)
      ·
        with_reducible refine (writeS_t k (e0,e1) z (m.f0%2) t _ (E.out.mk_ 0 rfl) FW.out).mono ?_
        rintro e w16_ ⟨d17_,rfl,Md17_,hb⟩
        have q:=E.out.made4 O.out 2 rfl Md17_ hb;clear O E Md17_ hb;obtain ⟨n18_,m19_,Ld17_,Od17_,O,E⟩:=q
        refine ⟨_,rfl,⟨(E.out.box 5 rfl),(E.out.box 2 rfl),trivial⟩,(fun hHeld=> ?_)⟩
        refine zK (a':= ?_) ?_ ?_;rotate_left;(· show Act.put _ (some 50) _=_;simp only [Act.put,s_A,s_0,s_1,zA];try rfl)
        iterate 3 (refine zua (v:= ?_) (a':= ?_) rfl rfl (Or.inl ⟨by rfl,?_⟩) ?_ ?_;rotate_left;(· intro w';go_simp;with_reducible rfl);rotate_left;(· show Act.put _ (some _) _=_;simp only [Act.put,s_A,s_0,s_1,zA];try rfl))
        refine zQa rfl (zCa rfl zq19 37 rfl [.slice none 0 0,.slice none 0 0] zq7 ?_)
        replace O:=zz (And.intro E.out.le O.out)
        replace E:=zz (E.out.alloc [.slice none 0 0,.slice none 0 0] 37 (g:=w16_.heap.size) rfl)
        refine ⟨⟨(E.out.box 6 rfl),(E.out.box 3 rfl),trivial⟩,(fun hHeld=> ?_)⟩
        refine zK (a':= ?_) ?_ ?_;rotate_left;(· show Act.put _ (some 13) _=_;simp only [Act.put,s_A,s_0,s_1,zA];try rfl)
        generalize (w16_.alloc (.cells [.slice none 0 0,.slice none 0 0].toArray 37))=w20_ at E hHeld ⊢
        refine tre_l rfl (zT rfl zq19 37 _ _ rfl w16_.heap.size 0 d17_ [] [.slice none 0 0,.slice none 0 0] [] rfl rfl (E.out.box 0 rfl) zq8 (rfl) (by rw [Ld17_.out];rfl) (by rw [Ld17_.out];kernel_rfl) Od17_.out (fun W21_ hp hn=> ?_))
        replace E:=E.out.put2 0 hp hn zq10;clear hp hn
        (refine zua (v:= ?_) (a':= ?_) rfl rfl (Or.inl ⟨by rfl,?_⟩) ?_ ?_;rotate_left;(· intro w';go_simp;with_reducible rfl);rotate_left;(· show Act.put _ (some _) _=_;simp only [Act.put,s_A,s_0,s_1,zA];try rfl))
        refine zAa ?_
        clear hHeld
        go_wp2_with (first|((with_reducible refine zv (N:=53) rfl ?_);refine zy rfl 37 _ rfl w16_.heap.size 0 [] d17_ [] _ rfl (E.out.box 0 rfl) zq8 (rfl) Tryz.underlying37 rfl (by rw [Ld17_.out];kernel_rfl) ?_))
        ((with_reducible refine (zib k z left torn q _ (E.out.mk_ 1 rfl) (E.out.K KL.out) FF.out).mono ?_);rintro e w22_ ⟨d23_,rfl,Md23_,hb⟩)
        have q:=E.out.made4 O.out 2 rfl Md23_ hb;clear O E Md23_ hb;obtain ⟨n24_,m25_,Ld23_,Od23_,O,E⟩:=q
        go_wp2_with (first|((with_reducible refine zC (t:=37) (p:=8) rfl ?_);refine zD rfl 37 _ _ rfl rfl (w.heap.size+1) 0 d23_ [] [.slice none 0 0,.slice none 0 0] [] rfl rfl (E.out.box 6 rfl) zq8 (rfl) (by rw [Ld23_.out];rfl) (by rw [Ld23_.out];kernel_rfl) Od23_.out ?_;intro W26_ hp hn;replace E:=E.out.put2 6 hp hn zq10;clear hp hn))
        have BX:=zz (show _=some (Obj.cells (d23_:List Value).toArray 37 (0,0)) from by first|exact (E.out.box 6 rfl)|simpa only [aA,aN,aL] using (E.out.box 6 rfl))
        refine bodyPost_ret (zY rfl _ _ (w.heap.size+1) 37 _ _ _ rfl BX.out Tryz.underlying37 rfl (by rw [List.size_toArray,show (d23_:List Value).length=2 from Ld23_.out];kernel_rfl)) rfl ?_
        exact ⟨_,rfl,(zjb (d:=kDisk) (E.out.made 0 rfl) (Nat.le_refl _)),E.out.below⟩
      ·
        replace O:=zz (And.intro E.out.le O.out)
        replace E:=zz (E.out.alloc [.slice none 0 0,.slice none 0 0] 37 (g:=w15_.heap.size) rfl)
        refine ⟨⟨(E.out.box 5 rfl),(E.out.box 2 rfl),trivial⟩,(fun hHeld=> ?_)⟩
        refine zK (a':= ?_) ?_ ?_;rotate_left;(· show Act.put _ (some 13) _=_;simp only [Act.put,s_A,s_0,s_1,zA];try rfl)
        generalize (w15_.alloc (.cells [.slice none 0 0,.slice none 0 0].toArray 37))=w27_ at E hHeld ⊢
        refine zQa rfl (zZ rfl Tryz.func38 zq7 rfl #[.agg d12_.toArray,.int .i64 (m.f0%2),.string t] zq19 rfl zq13 ?_)
        with_reducible refine (writeS_t k (e0,e1) z (m.f0%2) t _ (E.out.mk_ 1 rfl) FW.out).mono ?_
        rintro e w28_ ⟨d29_,rfl,Md29_,hb⟩
        have q:=E.out.made4 O.out 2 rfl Md29_ hb;clear O E Md29_ hb;obtain ⟨n30_,m31_,Ld29_,Od29_,O,E⟩:=q
        refine ⟨_,rfl,⟨(E.out.box 6 rfl),(E.out.box 3 rfl),trivial⟩,(fun hHeld=> ?_)⟩
        refine zK (a':= ?_) ?_ ?_;rotate_left;(· show Act.put _ (some 50) _=_;simp only [Act.put,s_A,s_0,s_1,zA];try rfl)
        iterate 3 (refine zua (v:= ?_) (a':= ?_) rfl rfl (Or.inl ⟨by rfl,?_⟩) ?_ ?_;rotate_left;(· intro w';go_simp;with_reducible rfl);rotate_left;(· show Act.put _ (some _) _=_;simp only [Act.put,s_A,s_0,s_1,zA];try rfl))
        refine tre_l rfl (zT rfl zq19 37 _ _ rfl w15_.heap.size 0 d29_ [] [.slice none 0 0,.slice none 0 0] [] rfl rfl (E.out.box 1 rfl) zq8 (rfl) (by rw [Ld29_.out];rfl) zq46 Od29_.out (fun W32_ hp hn=> ?_))
        replace E:=E.out.put2 1 hp hn zq10;clear hp hn
        (refine zua (v:= ?_) (a':= ?_) rfl rfl (Or.inl ⟨by rfl,?_⟩) ?_ ?_;rotate_left;(· intro w';go_simp;with_reducible rfl);rotate_left;(· show Act.put _ (some _) _=_;simp only [Act.put,s_A,s_0,s_1,zA];try rfl))
        refine zAa ?_
        clear hHeld
        go_wp2_with (first|((with_reducible refine zv (N:=53) rfl ?_);refine zy rfl 37 _ rfl w15_.heap.size 0 [] d29_ [] _ rfl (E.out.box 1 rfl) zq8 (rfl) Tryz.underlying37 rfl zq46 ?_))
        ((with_reducible refine (zib k z left torn q _ (E.out.mk_ 0 rfl) (E.out.K KL.out) FF.out).mono ?_);rintro e w33_ ⟨d34_,rfl,Md34_,hb⟩)
        have q:=E.out.made4 O.out 2 rfl Md34_ hb;clear O E Md34_ hb;obtain ⟨n35_,m36_,Ld34_,Od34_,O,E⟩:=q
        go_wp2_with (first|((with_reducible refine zC (t:=37) (p:=8) rfl ?_);refine zD rfl 37 _ _ rfl rfl (w.heap.size+1) 0 d34_ [] [.slice none 0 0,.slice none 0 0] [] rfl rfl (E.out.box 6 rfl) zq8 (rfl) (by rw [Ld34_.out];rfl) (by rw [Ld34_.out];kernel_rfl) Od34_.out ?_;intro W37_ hp hn;replace E:=E.out.put2 6 hp hn zq10;clear hp hn))
        have BX:=zz (show _=some (Obj.cells (d34_:List Value).toArray 37 (0,0)) from by first|exact (E.out.box 6 rfl)|simpa only [aA,aN,aL] using (E.out.box 6 rfl))
        refine bodyPost_ret (zY rfl _ _ (w.heap.size+1) 37 _ _ _ rfl BX.out Tryz.underlying37 rfl (by rw [List.size_toArray,show (d34_:List Value).length=2 from Ld34_.out];kernel_rfl)) rfl ?_
        exact ⟨_,rfl,(zjb (d:=kDisk) (E.out.made 0 rfl) (Nat.le_refl _)),E.out.below⟩
    ·
      replace O:=zz (And.intro E.out.le O.out)
      replace E:=zz (E.out.alloc [.slice none 0 0,.slice none 0 0] 37 (g:=w11_.heap.size) rfl)
      refine ⟨⟨(E.out.box 5 rfl),(E.out.box 2 rfl),trivial⟩,(fun hHeld=> ?_)⟩
      refine zK (a':= ?_) ?_ ?_;rotate_left;(· show Act.put _ (some 13) _=_;simp only [Act.put,s_A,s_0,s_1,zA];try rfl)
      generalize (w11_.alloc (.cells [.slice none 0 0,.slice none 0 0].toArray 37))=w38_ at E hHeld ⊢
      refine zQa rfl (zZ rfl Tryz.func39 zq7 rfl #[.int .i64 m.f0] zq19 rfl zq13 ?_)
      with_reducible refine (pageS_c m.f0 _ FX.out).mono ?_
      rintro e w39_ ⟨rfl,hb⟩
      replace E:=zz (E.out.call hb);clear hb
      refine ⟨_,rfl,⟨(E.out.box 5 rfl),(E.out.box 2 rfl),trivial⟩,(fun hHeld=> ?_)⟩
      refine zK (a':= ?_) ?_ ?_;rotate_left;(· show Act.put _ (some 48) _=_;simp only [Act.put,s_A,s_0,s_1,zA];try rfl)
      refine zQa rfl (zZ rfl Tryz.func38 zq7 rfl #[.agg d12_.toArray,.int .i64 (m.f0%2),.string t] zq19 rfl zq13 ?_)
      with_reducible refine (writeS_t k (e0,e1) z (m.f0%2) t _ (E.out.mk_ 1 rfl) FW.out).mono ?_
      rintro e w40_ ⟨d41_,rfl,Md41_,hb⟩
      have q:=E.out.made4 O.out 2 rfl Md41_ hb;clear O E Md41_ hb;obtain ⟨n42_,m43_,Ld41_,Od41_,O,E⟩:=q
      refine ⟨_,rfl,⟨(E.out.box 6 rfl),(E.out.box 3 rfl),trivial⟩,(fun hHeld=> ?_)⟩
      refine zK (a':= ?_) ?_ ?_;rotate_left;(· show Act.put _ (some 50) _=_;simp only [Act.put,s_A,s_0,s_1,zA];try rfl)
      iterate 3 (refine zua (v:= ?_) (a':= ?_) rfl rfl (Or.inl ⟨by rfl,?_⟩) ?_ ?_;rotate_left;(· intro w';go_simp;with_reducible rfl);rotate_left;(· show Act.put _ (some _) _=_;simp only [Act.put,s_A,s_0,s_1,zA];try rfl))
      refine tre_l rfl (zT rfl zq19 37 _ _ rfl w11_.heap.size 0 d41_ [] [.slice none 0 0,.slice none 0 0] [] rfl rfl (E.out.box 1 rfl) zq8 (rfl) (by rw [Ld41_.out];rfl) (by rw [Ld41_.out];kernel_rfl) Od41_.out (fun W44_ hp hn=> ?_))
      replace E:=E.out.put2 1 hp hn zq10;clear hp hn
      (refine zua (v:= ?_) (a':= ?_) rfl rfl (Or.inl ⟨by rfl,?_⟩) ?_ ?_;rotate_left;(· intro w';go_simp;with_reducible rfl);rotate_left;(· show Act.put _ (some _) _=_;simp only [Act.put,s_A,s_0,s_1,zA];try rfl))
      refine zAa ?_
      clear hHeld
      go_wp2_with (first|((with_reducible refine zv (N:=53) rfl ?_);refine zy rfl 37 _ rfl w11_.heap.size 0 [] d41_ [] _ rfl (E.out.box 1 rfl) zq8 (rfl) Tryz.underlying37 rfl (by rw [Ld41_.out];kernel_rfl) ?_))
      ((with_reducible refine (zib k z left torn q _ (E.out.mk_ 0 rfl) (E.out.K KL.out) FF.out).mono ?_);rintro e w45_ ⟨d46_,rfl,Md46_,hb⟩)
      have q:=E.out.made4 O.out 2 rfl Md46_ hb;clear O E Md46_ hb;obtain ⟨n47_,m48_,Ld46_,Od46_,O,E⟩:=q
      go_wp2_with (first|((with_reducible refine zC (t:=37) (p:=8) rfl ?_);refine zD rfl 37 _ _ rfl rfl (w.heap.size+1) 0 d46_ [] [.slice none 0 0,.slice none 0 0] [] rfl rfl (E.out.box 6 rfl) zq8 (rfl) (by rw [Ld46_.out];rfl) (by rw [Ld46_.out];kernel_rfl) Od46_.out ?_;intro W49_ hp hn;replace E:=E.out.put2 6 hp hn zq10;clear hp hn))
      have BX:=zz (show _=some (Obj.cells (d46_:List Value).toArray 37 (0,0)) from by first|exact (E.out.box 6 rfl)|simpa only [aA,aN,aL] using (E.out.box 6 rfl))
      refine bodyPost_ret (zY rfl _ _ (w.heap.size+1) 37 _ _ _ rfl BX.out Tryz.underlying37 rfl (by rw [List.size_toArray,show (d46_:List Value).length=2 from Ld46_.out];kernel_rfl)) rfl ?_
      exact ⟨_,rfl,(zjb (d:=kDisk) (E.out.made 0 rfl) (Nat.le_refl _)),E.out.below⟩
  ·
    replace O:=zz (And.intro E.out.le O.out)
    replace E:=zz (E.out.alloc [.slice none 0 0,.slice none 0 0] 37 (g:=w8_.heap.size) rfl)
    refine ⟨⟨(E.out.box 4 rfl),(E.out.box 1 rfl),trivial⟩,(fun hHeld=> ?_)⟩
    refine zK (a':= ?_) ?_ ?_;rotate_left;(· show Act.put _ (some 13) _=_;simp only [Act.put,s_A,s_0,s_1,zA];try rfl)
    generalize (w8_.alloc (.cells [.slice none 0 0,.slice none 0 0].toArray 37))=w50_ at E hHeld ⊢
    refine zQa rfl (zZ rfl Tryz.func33 zq7 rfl #[.agg [.slice B0 l0.length d0,.slice B1 l1.length d1].toArray] zq19 rfl zq13 ?_)
    with_reducible refine (specSync_o k l0 l1 e0 e1 _ (zta (E.out.K KW0.out) (E.out.K KW1.out)) FS.out).mono ?_
    rintro e w51_ ⟨d52_,rfl,Md52_,hb⟩
    have q:=E.out.made4 O.out 2 rfl Md52_ hb;clear O E Md52_ hb;obtain ⟨n53_,m54_,Ld52_,Od52_,O,E⟩:=q
    refine ⟨_,rfl,⟨(E.out.box 5 rfl),(E.out.box 2 rfl),trivial⟩,(fun hHeld=> ?_)⟩
    refine zK (a':= ?_) ?_ ?_;rotate_left;(· show Act.put _ (some 45) _=_;simp only [Act.put,s_A,s_0,s_1,zA];try rfl)
    refine zQa rfl (zZ rfl Tryz.func39 zq7 rfl #[.int .i64 m.f0] zq19 rfl zq13 ?_)
    with_reducible refine (pageS_c m.f0 _ FX.out).mono ?_
    rintro e w55_ ⟨rfl,hb⟩
    replace E:=zz (E.out.call hb);clear hb
    refine ⟨_,rfl,⟨(E.out.box 5 rfl),(E.out.box 2 rfl),trivial⟩,(fun hHeld=> ?_)⟩
    refine zK (a':= ?_) ?_ ?_;rotate_left;(· show Act.put _ (some 48) _=_;simp only [Act.put,s_A,s_0,s_1,zA];try rfl)
    refine zQa rfl (zZ rfl Tryz.func38 zq7 rfl #[.agg d52_.toArray,.int .i64 (m.f0%2),.string t] zq19 rfl zq13 ?_)
    with_reducible refine (writeS_t k (e0,e1) z (m.f0%2) t _ (E.out.mk_ 0 rfl) FW.out).mono ?_
    rintro e w56_ ⟨d57_,rfl,Md57_,hb⟩
    have q:=E.out.made4 O.out 2 rfl Md57_ hb;clear O E Md57_ hb;obtain ⟨n58_,m59_,Ld57_,Od57_,O,E⟩:=q
    refine ⟨_,rfl,⟨(E.out.box 6 rfl),(E.out.box 3 rfl),trivial⟩,(fun hHeld=> ?_)⟩
    refine zK (a':= ?_) ?_ ?_;rotate_left;(· show Act.put _ (some 50) _=_;simp only [Act.put,s_A,s_0,s_1,zA];try rfl)
    iterate 3 (refine zua (v:= ?_) (a':= ?_) rfl rfl (Or.inl ⟨by rfl,?_⟩) ?_ ?_;rotate_left;(· intro w';go_simp;with_reducible rfl);rotate_left;(· show Act.put _ (some _) _=_;simp only [Act.put,s_A,s_0,s_1,zA];try rfl))
    refine tre_l rfl (zT rfl zq19 37 _ _ rfl w8_.heap.size 0 d57_ [] [.slice none 0 0,.slice none 0 0] [] rfl rfl (E.out.box 2 rfl) zq8 (rfl) (by rw [Ld57_.out];rfl) (by rw [Ld57_.out];kernel_rfl) Od57_.out (fun W60_ hp hn=> ?_))
    replace E:=E.out.put2 2 hp hn zq10;clear hp hn
    (refine zua (v:= ?_) (a':= ?_) rfl rfl (Or.inl ⟨by rfl,?_⟩) ?_ ?_;rotate_left;(· intro w';go_simp;with_reducible rfl);rotate_left;(· show Act.put _ (some _) _=_;simp only [Act.put,s_A,s_0,s_1,zA];try rfl))
    refine zAa ?_
    clear hHeld
    go_wp2_with (first|((with_reducible refine zv (N:=53) rfl ?_);refine zy rfl 37 _ rfl w8_.heap.size 0 [] d57_ [] _ rfl (E.out.box 2 rfl) zq8 (rfl) Tryz.underlying37 rfl (by rw [Ld57_.out];kernel_rfl) ?_))
    ((with_reducible refine (zib k z left torn q _ (E.out.mk_ 0 rfl) (E.out.K KL.out) FF.out).mono ?_);rintro e w61_ ⟨d62_,rfl,Md62_,hb⟩)
    have q:=E.out.made4 O.out 2 rfl Md62_ hb;clear O E Md62_ hb;obtain ⟨n63_,m64_,Ld62_,Od62_,O,E⟩:=q
    go_wp2_with (first|((with_reducible refine zC (t:=37) (p:=8) rfl ?_);refine zD rfl 37 _ _ rfl rfl (w.heap.size+1) 0 d62_ [] [.slice none 0 0,.slice none 0 0] [] rfl rfl (E.out.box 6 rfl) zq8 (rfl) (by rw [Ld62_.out];rfl) (by rw [Ld62_.out];kernel_rfl) Od62_.out ?_;intro W65_ hp hn;replace E:=E.out.put2 6 hp hn zq10;clear hp hn))
    have BX:=zz (show _=some (Obj.cells (d62_:List Value).toArray 37 (0,0)) from by first|exact (E.out.box 6 rfl)|simpa only [aA,aN,aL] using (E.out.box 6 rfl))
    refine bodyPost_ret (zY rfl _ _ (w.heap.size+1) 37 _ _ _ rfl BX.out Tryz.underlying37 rfl (by rw [List.size_toArray,show (d62_:List Value).length=2 from Ld62_.out];kernel_rfl)) rfl ?_
    exact ⟨_,rfl,(zjb (d:=kDisk) (E.out.made 0 rfl) (Nat.le_refl _)),E.out.below⟩
@[reducible] def EqDisk (k:Nat) (z:(List ByteArray×List S110)):Prop:=eqDisk_c_f k z z=some true
@[reducible] def HeldDisk (k:Nat) (z:(List ByteArray×List S110)) (a r:Int):Prop:=heldDisk_c_f k z a=some r
def MarkDisk (k:Nat) (z:(List ByteArray×List S110)) (a:Int) (z':(List ByteArray×List S110)) (r:Int):Prop:=laws_markDisk.f k z.1 z.2 a=some (r,z'.1,z'.2)
theorem markDisk_c (k:Nat) (z:(List ByteArray×List S110)) (a:Int) (z':(List ByteArray×List S110)) (r:Int) (ok:Nat→Prop) {cs:List Value} (w0 w:World) (hB:Below w0.heap.size w0 w) (hk:∀k,ok k→k<w.heap.size) (h:kDisk.M w w0.heap.size ok z cs) (hf:MarkDisk k z a z' r):
  Calls Tryz.prog 14 #[.agg cs.toArray,.int .i64 a] w fun e w'=>e= .returned (.int .i64 r)∧kDisk.M w' w0.heap.size ok z' cs∧Below w0.heap.size w0 w'∧Kept w w' ok:=by
 obtain ⟨l0,l1⟩:=z
 obtain ⟨q0,q1⟩:=z'
 exact markDisk_o k l0 l1 a r q0 q1 ok w0 w hB h hf
def ImplCut (k:Nat) (d:(S40×(List ByteArray×List S110×Int×List Int×List Int×List Int)×Int)) (stage:Int) (left:List Bool) (torn:Int) (q:(List ByteArray×List S110)):Prop:=∃m b,ImplNM k d m b∧(((zab d=true∨b=false∨stage=0)∧impl_FallDisk.f k d.2.1.1 d.2.1.2.1 left torn=some (q.1,q.2))∨(zab d=false∧b=true∧stage≠0∧∃t ok e0 e1 y r,(∃(vt:Int→ByteArray) (sl:ByteArray→ByteArray),TxF k vt sl∧MTxt vt sl m t ok)∧impl_SyncDisk.f k d.2.1.1 d.2.1.2.1=some (e0,e1)∧(0≤m.f0∧m.f0≤100000)∧((r=false∧(e0.length≤2000000∧e1.length≤2000000)∧impl_DiskOk.f e0 e1=some false∧impl_FallDisk.f k e0 e1 left torn=some (q.1,q.2))∨(r=true∧impl_WritePage.f e0 e1 (m.f0%2) t=some ((y:(List ByteArray×List S110)).1,y.2,true)∧impl_FallDisk.f k y.1 y.2 left torn=some (q.1,q.2)))))
theorem implCut_c (k:Nat) (d:(S40×(List ByteArray×List S110×Int×List Int×List Int×List Int)×Int)) (stage:Int) (left:List Bool) (torn:Int) (q:(List ByteArray×List S110)) {cs:List Value} {v:Value} (w:World) (h:kTxn.K w d cs) (hl:(Own.srow 4 Kd.bool).K w left [v]) (hf:ImplCut k d stage left torn q):
  Calls Tryz.prog 20 #[.agg cs.toArray,.int .i64 stage,v,.int .i64 torn] w fun e w'=>∃ds:List Value,e= .returned (.agg ds.toArray)∧kDisk.M w' w.heap.size (Fr w w') q ds∧Below w.heap.size w w':=by
 obtain ⟨y,⟨l0,l1,l2,l3,l4,l5⟩,n⟩:=d
 obtain ⟨m,b,hn,⟨g,f⟩|⟨hi,rfl,hs,t,ok,e0,e1,u,r,ft,fs,fx,⟨rfl,fe,fd,f⟩|⟨rfl,fw,f⟩⟩⟩:=hf
 ·cases b with
  |false=>exact cutI_1 k y l0 l1 l2 l3 l4 l5 n stage left torn q m w h hl hn f
  |true=>
   cases hi:zab (y,(l0,l1,l2,l3,l4,l5),n) with
   |true=>exact cutI_2 k y l0 l1 l2 l3 l4 l5 n stage left torn q m w h hl hn hi f
   |false=>
    rcases g with g|g|g
    ·rw [hi] at g;cases g
    ·cases g
    ·subst g
     exact cutI_3 k y l0 l1 l2 l3 l4 l5 n left torn q m w h hl hn hi f
 ·exact cutI_b k y l0 l1 l2 l3 l4 l5 n stage left torn q m t ok e0 e1 w h hl hn hi ft fs fx fe fd f hs
 ·exact cutI_c k y l0 l1 l2 l3 l4 l5 n stage left torn q m t ok e0 e1 u w h hl hn hi ft fs fx fw f hs
def SpecCut (k:Nat) (d:(S40×(List ByteArray×List S110×Int×List Int×List Int×List Int)×Int)) (stage:Int) (left:List Bool) (torn:Int) (q:(List ByteArray×List S110)):Prop:=∃m b,SpecNM k d m b∧(((zab d=true∨b=false∨stage=0)∧spec_FallDisk.f k d.2.1.1 d.2.1.2.1 left torn=some (q.1,q.2))∨(zab d=false∧b=true∧stage≠0∧∃t ok e0 e1 y r,(∃(vt:Int→ByteArray) (sl:ByteArray→ByteArray),TxF k vt sl∧MTxt vt sl m t ok)∧spec_SyncDisk.f k d.2.1.1 d.2.1.2.1=some (e0,e1)∧(0≤m.f0∧m.f0≤100000)∧((r=false∧(e0.length≤2000000∧e1.length≤2000000)∧spec_DiskOk.f k e0 e1=some false∧spec_FallDisk.f k e0 e1 left torn=some (q.1,q.2))∨(r=true∧spec_WritePage.f k e0 e1 (m.f0%2) t=some ((y:(List ByteArray×List S110)).1,y.2,true)∧spec_FallDisk.f k y.1 y.2 left torn=some (q.1,q.2)))))
theorem specCut_c (k:Nat) (d:(S40×(List ByteArray×List S110×Int×List Int×List Int×List Int)×Int)) (stage:Int) (left:List Bool) (torn:Int) (q:(List ByteArray×List S110)) {cs:List Value} {v:Value} (w:World) (h:kTxn.K w d cs) (hl:(Own.srow 4 Kd.bool).K w left [v]) (hf:SpecCut k d stage left torn q):
  Calls Tryz.prog 18 #[.agg cs.toArray,.int .i64 stage,v,.int .i64 torn] w fun e w'=>∃ds:List Value,e= .returned (.agg ds.toArray)∧kDisk.M w' w.heap.size (Fr w w') q ds∧Below w.heap.size w w':=by
 obtain ⟨y,⟨l0,l1,l2,l3,l4,l5⟩,n⟩:=d
 obtain ⟨m,b,hn,⟨g,f⟩|⟨hi,rfl,hs,t,ok,e0,e1,u,r,ft,fs,fx,⟨rfl,fe,fd,f⟩|⟨rfl,fw,f⟩⟩⟩:=hf
 ·cases hi:zab (y,(l0,l1,l2,l3,l4,l5),n) with
  |true=>exact cutS_1 k y l0 l1 l2 l3 l4 l5 n stage left torn q m b w h hl hn hi f
  |false=>
   cases b with
   |false=>exact cutS_2 k y l0 l1 l2 l3 l4 l5 n stage left torn q m w h hl hn hi f
   |true=>
    rcases g with g|g|g
    ·rw [hi] at g;cases g
    ·cases g
    ·subst g
     exact cutS_3 k y l0 l1 l2 l3 l4 l5 n left torn q m w h hl hn hi f
 ·exact cutS_b k y l0 l1 l2 l3 l4 l5 n stage left torn q m t ok e0 e1 w h hl hn hi ft fs fx fe fd f hs
 ·exact cutS_c k y l0 l1 l2 l3 l4 l5 n stage left torn q m t ok e0 e1 u w h hl hn hi ft fs fx fw f hs
theorem cut_long (k:Nat) (a0:(S24×(List ByteArray×List S156×Int×List Int×List Int×List Int)×Int)) (stage:Int) (left:List Bool) (torn:Int) {cs0:List Value} {v:Value} (w:World) (h0:kTxnL.K w a0 cs0) (hl:(Own.srow 4 Kd.bool).K w left [v]) (hln:(1048576:Int)<(left.length:Int)):
  Calls Tryz.prog 4 #[.agg cs0.toArray,.int .i64 stage,v,.int .i64 torn] w fun e w'=>e= .returned (.bool true)∧Below w.heap.size w w':=by
 have KA0:=zz h0;have LA0:=zz (show cs0.length=11 from Kd.K_len _ h0);clear h0
 have KL:=zz hl
 obtain ⟨AL,cL,hvl,-,-⟩:=hl
 injection hvl with hvl
 subst hvl
 replace hln:decide ((1048576:Int)<(left.length:Int))=true:=decide_eq_true hln
 have O:=zz (Nat.le_refl w.heap.size)
 have E:=zz (Env.start w)
 go_enter Tryz.func4,Tryz.ntmps4
 go_wp2_with fail
 replace O:=zz (And.intro E.out.le O.out)
 replace E:=zz (E.out.alloc cs0 33 (g:=w.heap.size) rfl)
 go_ret
 exact ⟨rfl,E.out.below⟩
theorem cut_small (k:Nat) (a0:(S24×(List ByteArray×List S156×Int×List Int×List Int×List Int)×Int)) (stage:Int) (left:List Bool) (torn:Int) (r0:Int) {cs0:List Value} {v:Value} (w:World) (h0:kTxnL.K w a0 cs0) (hl:(Own.srow 4 Kd.bool).K w left [v]) (hs0:szTxn_c_f k a0 1048576=some r0) (hr0:r0<0) (hln:¬(1048576:Int)<(left.length:Int)):
  Calls Tryz.prog 4 #[.agg cs0.toArray,.int .i64 stage,v,.int .i64 torn] w fun e w'=>e= .returned (.bool true)∧Below w.heap.size w w':=by
 have KA0:=zz h0;have LA0:=zz (show cs0.length=11 from Kd.K_len _ h0);clear h0
 have KL:=zz hl
 obtain ⟨AL,cL,hvl,-,-⟩:=hl
 injection hvl with hvl
 subst hvl
 have HS0:=zz hs0;clear hs0
 replace hr0:decide (r0<0)=true:=decide_eq_true hr0
 replace hln:decide ((1048576:Int)<(left.length:Int))=false:=decide_eq_false hln
 have O:=zz (Nat.le_refl w.heap.size)
 have E:=zz (Env.start w)
 go_enter Tryz.func4,Tryz.ntmps4
 go_wp2_with (first|((with_reducible refine zv (N:=21) rfl ?_);replace O:=zz (And.intro E.out.le O.out);replace E:=zz (E.out.alloc cs0 33 (g:=w.heap.size) rfl);refine zy rfl 33 _ rfl w.heap.size 0 [] cs0 [] _ rfl (E.out.box 0 rfl) zq8 (rfl) Tryz.underlying33 rfl zq58 ?_))
 ((with_reducible refine (szTxn_c k a0 1048576 r0 _ (E.out.K KA0.out) HS0.out).mono ?_);rintro e w1_ ⟨rfl,hb⟩)
 replace E:=zz (E.out.call hb);clear hb
 go_wp2_with fail
 go_ret
 exact ⟨rfl,E.out.below⟩
def cut_great_T13:Bool×List (List Nat×List Nat):=(true,[([],[]),([],[]),([1],[1]),([0,2,2],[0,2]),([3],[3])])
def cut_great_B13:List Nat:=[0,0,2,7,15]
theorem cut_great_ok13_0:regT (zkb Tryz.f4 13) cut_great_T13 cut_great_B13 [] (.t 0 (.t 1 (.e 2 (.e 3 (.p 4 .d)))))=true:=by kernel_rfl
theorem cut_great (k:Nat) (a0:(S24×(List ByteArray×List S156×Int×List Int×List Int×List Int)×Int)) (stage:Int) (left:List Bool) (torn:Int) (r0:Int) (d0 d0_:(S40×(List ByteArray×List S110×Int×List Int×List Int×List Int)×Int)) (z z_:(List ByteArray×List S110)) (left_:List Bool) (mk0 mk1 mg:Int) {cs0:List Value} {v:Value} (w:World) (h0:kTxnL.K w a0 cs0) (hl:(Own.srow 4 Kd.bool).K w left [v]) (hs0:szTxn_c_f k a0 1048576=some r0) (ht:ToTxn k a0 d0) (htl:laws_toBoolS.f k left=some left) (hsp:SpecCut k d0 stage left torn z) (him:ImplCut k d0 stage left torn z) (heq:EqDisk k z) (hex:EqTxn k d0) (hel:laws_eqBoolS.f k left left=some true) (hmk:MarkTxn k d0 1 d0_ mk0) (hml:laws_markBoolS.f k left mk0=some (mk1,left_)) (hmg:MarkDisk k z 1 z_ mg) (hhd:HeldDisk k z_ 1 mg) (hr0:¬r0<0) (hln:¬(1048576:Int)<(left.length:Int)) (hm:¬mk1<0) (hg:¬mg<0):
  Calls Tryz.prog 4 #[.agg cs0.toArray,.int .i64 stage,v,.int .i64 torn] w fun e w'=>e= .returned (.bool true)∧Below w.heap.size w w':=by
 have KA0:=zz h0;have LA0:=zz (show cs0.length=11 from Kd.K_len _ h0);clear h0
 have KL:=zz hl
 obtain ⟨AL,cL,hvl,-,-⟩:=hl
 injection hvl with hvl
 subst hvl
 have HS0:=zz hs0;clear hs0
 have HT:=zz ht;clear ht
 have HTL:=zz htl;clear htl
 have HSP:=zz hsp;clear hsp
 have HIM:=zz him;clear him
 have HEQ:=zz heq;clear heq
 have HEX:=zz hex;clear hex
 have HEL:=zz hel;clear hel
 have HMK:=zz hmk;clear hmk
 have HML:=zz hml;clear hml
 have HMG:=zz hmg;clear hmg
 have HHD:=zz hhd;clear hhd
 replace hr0:decide (r0<0)=false:=decide_eq_false hr0
 replace hln:decide ((1048576:Int)<(left.length:Int))=false:=decide_eq_false hln
 replace hm:decide (mk1<0)=false:=decide_eq_false hm
 replace hg:decide (mg<0)=false:=decide_eq_false hg
 have O:=zz (Nat.le_refl w.heap.size)
 have E:=zz (Env.start w)
 go_enter Tryz.func4,Tryz.ntmps4
 go_wp2_with (first|((with_reducible refine zv (N:=21) rfl ?_);replace O:=zz (And.intro E.out.le O.out);replace E:=zz (E.out.alloc cs0 33 (g:=w.heap.size) rfl);refine zy rfl 33 _ rfl w.heap.size 0 [] cs0 [] _ rfl (E.out.box 0 rfl) zq8 (rfl) Tryz.underlying33 rfl zq58 ?_))
 ((with_reducible refine (szTxn_c k a0 1048576 r0 _ (E.out.K KA0.out) HS0.out).mono ?_);rintro e w1_ ⟨rfl,hb⟩)
 replace E:=zz (E.out.call hb);clear hb
 go_wp2_with (first|((with_reducible refine zv (N:=26) rfl ?_);refine zy rfl 33 _ rfl w.heap.size 0 [] cs0 [] _ rfl (E.out.box 0 rfl) zq8 (rfl) Tryz.underlying33 rfl zq58 ?_))
 ((with_reducible refine (toTxn_c k a0 d0 _ (E.out.K KA0.out) HT.out).mono ?_);rintro e w2_ ⟨d3_,rfl,Md3_,hb⟩)
 have q:=E.out.made4 O.out 11 rfl Md3_ hb;clear O E Md3_ hb;obtain ⟨n4_,m5_,Ld3_,Od3_,O,E⟩:=q
 go_wp2_with fail
 ((with_reducible refine (toBoolS_c k left left _ (E.out.K KL.out) HTL.out).mono ?_);rintro e w6_ ⟨d7_,rfl,Md7_,hb⟩)
 have q:=E.out.made4 O.out 1 rfl Md7_ hb;clear O E Md7_ hb;obtain ⟨n8_,m9_,Ld7_,Od7_,O,E⟩:=q
 obtain ⟨B10_,e11_,hv,-⟩:=E.out.mk_ 0 rfl;injection hv with hv;subst hv
 go_wp2_with fail
 ((with_reducible refine (specCut_c k d0 stage left torn z _ (E.out.mk_ 1 rfl) (E.out.mk_ 0 rfl) HSP.out).mono ?_);rintro e w12_ ⟨d13_,rfl,Md13_,hb⟩)
 have q:=E.out.made4 O.out 2 rfl Md13_ hb;clear O E Md13_ hb;obtain ⟨n14_,m15_,Ld13_,Od13_,O,E⟩:=q
 go_wp2_with (first|((with_reducible refine zC (t:=37) (p:=10) rfl ?_);replace O:=zz (And.intro E.out.le O.out);replace E:=zz (E.out.alloc [.slice none 0 0,.slice none 0 0] 37 (g:=w12_.heap.size) rfl);refine zD rfl 37 _ _ rfl rfl w12_.heap.size 0 d13_ [] [.slice none 0 0,.slice none 0 0] [] rfl rfl (E.out.box 0 rfl) zq8 (rfl) (by rw [Ld13_.out];rfl) zq56 Od13_.out ?_;intro W16_ hp hn;replace E:=E.out.put2 0 hp hn zq10;clear hp hn)|((with_reducible refine zv (N:=33) rfl ?_);refine zy rfl 33 _ rfl w.heap.size 0 [] cs0 [] _ rfl (E.out.box 4 rfl) zq8 (rfl) Tryz.underlying33 rfl zq58 ?_))
 ((with_reducible refine (toTxn_c k a0 d0 _ (E.out.K KA0.out) HT.out).mono ?_);rintro e w17_ ⟨d18_,rfl,Md18_,hb⟩)
 have q:=E.out.made4 O.out 11 rfl Md18_ hb;clear O E Md18_ hb;obtain ⟨n19_,m20_,Ld18_,Od18_,O,E⟩:=q
 go_wp2_with (first|((with_reducible refine zC (t:=46) (p:=11) rfl ?_);replace O:=zz (And.intro E.out.le O.out);replace E:=zz (E.out.alloc Z46 46 (g:=w17_.heap.size) rfl);refine zD rfl 46 _ _ rfl rfl w17_.heap.size 0 d18_ [] Z46 [] rfl rfl (E.out.box 0 rfl) zq8 (rfl) (by rw [Ld18_.out];rfl) (by rw [Ld18_.out];kernel_rfl) Od18_.out ?_;intro W21_ hp hn;replace E:=E.out.put2 0 hp hn zq10;clear hp hn))
 ((with_reducible refine (toBoolS_c k left left _ (E.out.K KL.out) HTL.out).mono ?_);rintro e w22_ ⟨d23_,rfl,Md23_,hb⟩)
 have q:=E.out.made4 O.out 1 rfl Md23_ hb;clear O E Md23_ hb;obtain ⟨n24_,m25_,Ld23_,Od23_,O,E⟩:=q
 obtain ⟨B26_,e27_,hv,-⟩:=E.out.mk_ 0 rfl;injection hv with hv;subst hv
 go_wp2_with (first|((with_reducible refine zv (N:=37) rfl ?_);refine zy rfl 46 _ rfl w17_.heap.size 0 [] d18_ [] _ rfl (E.out.box 1 rfl) zq8 (rfl) Tryz.underlying46 rfl (by rw [Ld18_.out];kernel_rfl) ?_))
 ((with_reducible refine (implCut_c k d0 stage left torn z _ (E.out.mk_ 2 rfl) (E.out.mk_ 0 rfl) HIM.out).mono ?_);rintro e w28_ ⟨d29_,rfl,Md29_,hb⟩)
 have q:=E.out.made4 O.out 2 rfl Md29_ hb;clear O E Md29_ hb;obtain ⟨n30_,m31_,Ld29_,Od29_,O,E⟩:=q
 go_wp2_with (first|((with_reducible refine zC (t:=37) (p:=13) rfl ?_);replace O:=zz (And.intro E.out.le O.out);replace E:=zz (E.out.alloc [.slice none 0 0,.slice none 0 0] 37 (g:=w28_.heap.size) rfl);refine zD rfl 37 _ _ rfl rfl w28_.heap.size 0 d29_ [] [.slice none 0 0,.slice none 0 0] [] rfl rfl (E.out.box 0 rfl) zq8 (rfl) (by rw [Ld29_.out];rfl) zq46 Od29_.out ?_;intro W32_ hp hn;replace E:=E.out.put2 0 hp hn zq10;clear hp hn)|((with_reducible refine zv (N:=42) rfl ?_);refine zy rfl 37 _ rfl w28_.heap.size 0 [] d29_ [] _ rfl (E.out.box 0 rfl) zq8 (rfl) Tryz.underlying37 rfl zq46 ?_)|((with_reducible refine zv (N:=43) rfl ?_);refine zy rfl 37 _ rfl w12_.heap.size 0 [] d13_ [] _ rfl (E.out.box 5 rfl) zq8 (rfl) Tryz.underlying37 rfl zq56 ?_))
 ((with_reducible refine (eqDisk_c k z z true _ (E.out.mk_ 1 rfl) (E.out.mk_ 6 rfl) HEQ.out).mono ?_);rintro e w33_ ⟨rfl,hb⟩)
 replace E:=zz (E.out.call hb);clear hb
 go_upto_region 13 with (fail)
 replace E:=zz E.out.drew
 refine zgb cut_great_ok13_0 (S:=fun w'=>w'.heap[w17_.heap.size]?=some (.cells (([]++(d18_++[])):List Value).toArray 46 (0,0))∧w'.heap[w.heap.size]?=some (.cells (cs0:List Value).toArray 33 (0,0))∧True) zq7 (fun _ _ _ _ h=>h) ⟨(E.out.box 3 rfl),(E.out.box 9 rfl),trivial⟩ (fun hHeld=> ?_)
 generalize hq:World.drew _=w34_ at hHeld ⊢;replace E:=E.out.to hq;clear hq
 refine zNa (a':= ?ax35_) rfl rfl zq19 46 _ rfl w17_.heap.size 0 [] d18_ [] _ rfl (fun w' hs=>hs.1) zq8 (rfl) Tryz.underlying46 rfl (by rw [Ld18_.out];kernel_rfl) ?px35_ ?kx35_
 case px35_=>(show Act.put _ (some _) _=_;simp only [Act.put,s_A,s_0,s_1,zA];try rfl)
 refine zNa (a':= ?ax36_) rfl rfl zq19 33 _ rfl w.heap.size 0 [] cs0 [] _ rfl (fun w' hs=>hs.2.1) zq8 (rfl) Tryz.underlying33 rfl zq58 ?px36_ ?kx36_
 case px36_=>(show Act.put _ (some _) _=_;simp only [Act.put,s_A,s_0,s_1,zA];try rfl)
 refine zQa rfl (zZ rfl Tryz.func8 zq7 rfl #[.agg cs0.toArray] zq19 rfl zq13 ?_)
 with_reducible refine (toTxn_c k a0 d0 _ (E.out.K KA0.out) HT.out).mono ?_
 rintro e w37_ ⟨d38_,rfl,Md38_,hb⟩
 have q:=E.out.made4 O.out 11 rfl Md38_ hb;clear O E Md38_ hb;obtain ⟨n39_,m40_,Ld38_,Od38_,O,E⟩:=q
 refine ⟨_,rfl,⟨(E.out.box 4 rfl),(E.out.box 10 rfl),trivial⟩,(fun hHeld=> ?_)⟩
 refine zK (a':= ?_) ?_ ?_;rotate_left;(· show Act.put _ (some 48) _=_;simp only [Act.put,s_A,s_0,s_1,zA];try rfl)
 refine zQa rfl (zZ rfl Tryz.func12 zq7 rfl #[.agg d18_.toArray,.agg d38_.toArray] zq19 rfl zq13 ?_)
 with_reducible refine (eqTxn_c k d0 _ (E.out.mk_ 5 rfl) (E.out.mk_ 0 rfl) HEX.out).mono ?_
 rintro e w41_ ⟨rfl,hb⟩
 replace E:=zz (E.out.call hb);clear hb
 refine ⟨_,rfl,⟨(E.out.box 4 rfl),(E.out.box 10 rfl),trivial⟩,(fun hHeld=> ?_)⟩
 refine zK (a':= ?_) ?_ ?_;rotate_left;(· show Act.put _ (some 49) _=_;simp only [Act.put,s_A,s_0,s_1,zA];try rfl)
 (refine zua (v:= ?_) (a':= ?_) rfl rfl (Or.inl ⟨by rfl,?_⟩) ?_ ?_;rotate_left;(· intro w';go_simp;with_reducible rfl);rotate_left;(· show Act.put _ (some _) _=_;simp only [Act.put,s_A,s_0,s_1,zA];try rfl))
 refine zAa ?_
 clear hHeld
 go_wp2_with fail
 ((with_reducible refine (toBoolS_c k left left _ (E.out.K KL.out) HTL.out).mono ?_);rintro e w42_ ⟨d43_,rfl,Md43_,hb⟩)
 have q:=E.out.made4 O.out 1 rfl Md43_ hb;clear O E Md43_ hb;obtain ⟨n44_,m45_,Ld43_,Od43_,O,E⟩:=q
 obtain ⟨B46_,e47_,hv,-⟩:=E.out.mk_ 0 rfl;injection hv with hv;subst hv
 go_wp2_with fail
 ((with_reducible refine (eqBoolS_c k left _ (E.out.mk_ 4 rfl) (E.out.mk_ 0 rfl) HEL.out).mono ?_);rintro e w48_ ⟨rfl,hb⟩)
 replace E:=zz (E.out.call hb);clear hb
 go_wp2_with (first|((with_reducible refine zv (N:=56) rfl ?_);refine zy rfl 46 _ rfl w17_.heap.size 0 [] d18_ [] _ rfl (E.out.box 5 rfl) zq8 (rfl) Tryz.underlying46 rfl (by rw [Ld18_.out];kernel_rfl) ?_))
 ((with_reducible refine (markTxn_c k d0 1 d0_ mk0 _ w _ E.out.below (E.out.mbound 6 rfl) (E.out.made 6 rfl) HMK.out).mono ?_);rintro e w49_ ⟨rfl,M,hB,hK⟩)
 replace E:=zz (E.out.marked 6 rfl M hB hK zq40);clear M hB hK
 go_wp2_with fail
 ((with_reducible refine (markBoolS_c k left mk0 left_ mk1 _ w _ E.out.below (E.out.mbound 4 rfl) (E.out.made 4 rfl) HML.out).mono ?_);rintro e w50_ ⟨rfl,M,hB,hK⟩)
 replace E:=zz (E.out.marked 4 rfl M hB hK zq40);clear M hB hK
 go_wp2_with (first|((with_reducible refine zv (N:=65) rfl ?_);refine zEa zq19 37 _ rfl w28_.heap.size 0 [] d29_ [] _ rfl (E.out.box 2 rfl) zq8 (rfl) Tryz.underlying37 rfl zq46 ?_)|((with_reducible refine zv (N:=66) rfl ?_);refine zEa zq19 37 _ rfl w12_.heap.size 0 [] d13_ [] _ rfl (E.out.box 7 rfl) zq8 (rfl) Tryz.underlying37 rfl zq56 ?_))
 ((with_reducible refine (eqDisk_c k z z true _ (E.out.mk_ 3 rfl) (E.out.mk_ 8 rfl) HEQ.out).mono ?_);rintro e w51_ ⟨rfl,hb⟩)
 replace E:=zz (E.out.call hb);clear hb
 go_wp2_with (first|((with_reducible refine zv (N:=70) rfl ?_);refine zy rfl 37 _ rfl w28_.heap.size 0 [] d29_ [] _ rfl (E.out.box 2 rfl) zq8 (rfl) Tryz.underlying37 rfl zq46 ?_))
 ((with_reducible refine (markDisk_c k z 1 z_ mg _ w _ E.out.below (E.out.mbound 3 rfl) (E.out.made 3 rfl) HMG.out).mono ?_);rintro e w52_ ⟨rfl,M,hB,hK⟩)
 replace E:=zz (E.out.marked 3 rfl M hB hK zq40);clear M hB hK
 go_wp2_with (first|((with_reducible refine zv (N:=73) rfl ?_);refine zy rfl 37 _ rfl w28_.heap.size 0 [] d29_ [] _ rfl (E.out.box 2 rfl) zq8 (rfl) Tryz.underlying37 rfl zq46 ?_))
 ((with_reducible refine (heldDisk_c k z_ 1 mg _ (E.out.mk_ 3 rfl) HHD.out).mono ?_);rintro e w53_ ⟨rfl,hb⟩)
 replace E:=zz (E.out.call hb);clear hb
 go_wp2_with (first|((with_reducible refine zv (N:=81) rfl ?_);refine zy rfl 33 _ rfl w.heap.size 0 [] cs0 [] _ rfl (E.out.box 11 rfl) zq8 (rfl) Tryz.underlying33 rfl zq58 ?_))
 ((with_reducible refine (toTxn_c k a0 d0 _ (E.out.K KA0.out) HT.out).mono ?_);rintro e w54_ ⟨d55_,rfl,Md55_,hb⟩)
 have q:=E.out.made4 O.out 11 rfl Md55_ hb;clear O E Md55_ hb;obtain ⟨n56_,m57_,Ld55_,Od55_,O,E⟩:=q
 go_wp2_with fail
 ((with_reducible refine (toBoolS_c k left left _ (E.out.K KL.out) HTL.out).mono ?_);rintro e w58_ ⟨d59_,rfl,Md59_,hb⟩)
 have q:=E.out.made4 O.out 1 rfl Md59_ hb;clear O E Md59_ hb;obtain ⟨n60_,m61_,Ld59_,Od59_,O,E⟩:=q
 obtain ⟨B62_,e63_,hv,-⟩:=E.out.mk_ 0 rfl;injection hv with hv;subst hv
 go_wp2_with fail
 ((with_reducible refine (implCut_c k d0 stage left torn z _ (E.out.mk_ 1 rfl) (E.out.mk_ 0 rfl) HIM.out).mono ?_);rintro e w64_ ⟨d65_,rfl,Md65_,hb⟩)
 have q:=E.out.made4 O.out 2 rfl Md65_ hb;clear O E Md65_ hb;obtain ⟨n66_,m67_,Ld65_,Od65_,O,E⟩:=q
 go_wp2_with (first|((with_reducible refine zC (t:=37) (p:=17) rfl ?_);replace O:=zz (And.intro E.out.le O.out);replace E:=zz (E.out.alloc [.slice none 0 0,.slice none 0 0] 37 (g:=w64_.heap.size) rfl);refine zD rfl 37 _ _ rfl rfl w64_.heap.size 0 d65_ [] [.slice none 0 0,.slice none 0 0] [] rfl rfl (E.out.box 0 rfl) zq8 (rfl) (by rw [Ld65_.out];rfl) (by rw [Ld65_.out];kernel_rfl) Od65_.out ?_;intro W68_ hp hn;replace E:=E.out.put2 0 hp hn zq10;clear hp hn)|((with_reducible refine zv (N:=88) rfl ?_);refine zy rfl 37 _ rfl w64_.heap.size 0 [] d65_ [] _ rfl (E.out.box 0 rfl) zq8 (rfl) Tryz.underlying37 rfl (by rw [Ld65_.out];kernel_rfl) ?_)|((with_reducible refine zv (N:=89) rfl ?_);refine zy rfl 37 _ rfl w12_.heap.size 0 [] d13_ [] _ rfl (E.out.box 11 rfl) zq8 (rfl) Tryz.underlying37 rfl zq56 ?_))
 ((with_reducible refine (eqDisk_c k z z true _ (E.out.mk_ 1 rfl) (E.out.mk_ 12 rfl) HEQ.out).mono ?_);rintro e w69_ ⟨rfl,hb⟩)
 replace E:=zz (E.out.call hb);clear hb
 go_wp2_with (first|((with_reducible refine zv (N:=92) rfl ?_);refine zy rfl 37 _ rfl w28_.heap.size 0 [] d29_ [] _ rfl (E.out.box 6 rfl) zq8 (rfl) Tryz.underlying37 rfl zq46 ?_))
 ((with_reducible refine (heldDisk_c k z_ 1 mg _ (E.out.mk_ 7 rfl) HHD.out).mono ?_);rintro e w70_ ⟨rfl,hb⟩)
 replace E:=zz (E.out.call hb);clear hb
 go_wp2_with fail
 go_ret
 exact ⟨rfl,E.out.below⟩
theorem nm_ev2 (d:(S40×(List ByteArray×List S110×Int×List Int×List Int×List Int)×Int)) (h:OKt d):∃z b,EvP (fun k=>SpecNM k d z b)∧EvP (fun k=>ImplNM k d z b)∧OKn z.f3∧(b=true→MOk z):=by
 have h0:=h.1
 have hx:SmallM d.1:=⟨Nat.le_trans h.2.1.1 zq14,fun f hf=>Nat.le_trans (h.2.1.2 f hf) zq14⟩
 have hl:d.2.1.2.2.2.1.length≤2000000∧d.2.1.2.2.2.2.1.length≤2000000∧d.2.1.2.2.2.2.2.length≤2000000:=⟨Nat.le_trans h.2.2.2.1 zq14,Nat.le_trans h.2.2.2.2.1 zq14,Nat.le_trans h.2.2.2.2.2 zq14⟩
 by_cases hc:d.1.f0<100001
 ·obtain ⟨t,b,hm,hb⟩:=mt_ex_ vtN sealN (nmM (wrap64 (d.1.f0+1)) d.2.2 d.2.1.2.2.1 d.1 d.2.1.2.2.2.1 d.2.1.2.2.2.2.1 d.2.1.2.2.2.2.2)
  refine ⟨_,b,txF.imp (fun k T=>⟨vtN,sealN,_,t,T,hx,hl,.inl ⟨hc,rfl⟩,hm,rfl⟩),txF.imp (fun k T=>⟨vtN,sealN,t,T,hx,hl,hm,rfl⟩),?_⟩
  cases b with
  |false=>exact ⟨⟨Nat.zero_le _,fun s hs=>by cases hs⟩,fun h=>by cases h⟩
  |true=>exact ⟨(hb rfl).okn,fun _=>hb rfl⟩
 ·have n1:¬MOk (nmM d.1.f0 d.2.2 d.2.1.2.2.1 d.1 d.2.1.2.2.2.1 d.2.1.2.2.2.2.1 d.2.1.2.2.2.2.2):=fun g=>by
   have g0:d.1.f0≤100000:=g.f0.2
   omega
  have n2:¬MOk (nmM (wrap64 (d.1.f0+1)) d.2.2 d.2.1.2.2.1 d.1 d.2.1.2.2.2.1 d.2.1.2.2.2.2.1 d.2.1.2.2.2.2.2):=fun g=>by
   have g0:0≤wrap64 (d.1.f0+1)∧wrap64 (d.1.f0+1)≤100000:=g.f0
   unfold wrap64 at g0
   omega
  exact ⟨⟨0,0,0,[]⟩,false,txF.imp (fun k T=>⟨vtN,sealN,_,_,T,hx,hl,.inr ⟨hc,rfl⟩,.inl ⟨n1,rfl,rfl⟩,rfl⟩),txF.imp (fun k T=>⟨vtN,sealN,_,T,hx,hl,.inl ⟨n2,rfl,rfl⟩,rfl⟩),⟨Nat.zero_le _,fun s hs=>by cases hs⟩,fun h=>by cases h⟩
theorem mark_txn2 (d:(S40×(List ByteArray×List S110×Int×List Int×List Int×List Int)×Int)) (h:OKt d):∃d' mk,EvP (fun k=>MarkTxn k d 1 d' mk)∧(0<mk∧mk<3000000000000000):=by
 obtain ⟨y,⟨l0,l1,l2,l3,l4,l5⟩,n⟩:=d
 obtain ⟨h0,h4,h5,h6,h7,h8⟩:=h
 have b4:y.f3.length≤1048576:=h4.1
 have b5:l0.length≤1048576:=h5.1
 have b6:l1.length≤1048576:=h5.2
 have b7:l3.length≤1048576:=h6
 have b8:l4.length≤1048576:=h7
 have b9:l5.length≤1048576:=h8
 obtain ⟨gr,c4,c40,c41,m4,d4⟩:=mhF_ev y.f3 1 zq5 zq5 h4
 obtain ⟨u4,hu4⟩:∃u:Int,u=1+c4:=⟨_,rfl⟩
 rw [←hu4] at m4 d4
 obtain ⟨p',q',m5,d5⟩:=mhD_ev l0 l1 u4 zq5 zq5 zq5 zq5
 obtain ⟨u5,hu5⟩:∃u:Int,u=u4+l0.length+2*l1.length:=⟨_,rfl⟩
 rw [←hu5] at m5 d5
 obtain ⟨s3,m6,d6⟩:=mhI_ev l3 u5 zq5 zq5 zq5
 obtain ⟨u6,hu6⟩:∃u:Int,u=u5+l3.length:=⟨_,rfl⟩
 rw [←hu6] at m6 d6
 obtain ⟨s4,m7,d7⟩:=mhI_ev l4 u6 zq5 zq5 zq5
 obtain ⟨u7,hu7⟩:∃u:Int,u=u6+l4.length:=⟨_,rfl⟩
 rw [←hu7] at m7 d7
 obtain ⟨s5,m8,d8⟩:=mhI_ev l5 u7 zq5 zq5 zq5
 obtain ⟨u8,hu8⟩:∃u:Int,u=u7+l5.length:=⟨_,rfl⟩
 rw [←hu8] at m8 d8
 refine ⟨(⟨y.f0,y.f1,y.f2,gr⟩,(p',q',l2,s3,s4,s5),n),u8,?_,by omega,by omega⟩
 refine ((EvP.of m4).and ((EvP.of m5).and ((EvP.of m6).and ((EvP.of m7).and (EvP.of m8))))).imp ?_
 rintro k ⟨f4,f5,f6,f7,f8⟩
 exact ⟨u4,u5,u6,u7,f4,f5,f6,f7,f8,rfl⟩
theorem fall_go (p:List ByteArray) (q:List S110) (left:List Bool) (torn:Int) (hp:p.length≤2000000) (hq:q.length≤2000000) (hin:∀s∈q,(0≤s.f0∧s.f0<(p.length:Int))∧s.f1.size≤240):∀(n i:Nat) (e:List ByteArray),i+n=q.length→e.length=p.length→∃e',Ev (fun k=>spec_FallDisk.l0 k left torn (i:Int) p q e) (e',[])∧Ev (fun k=>impl_FallDisk.l0 k left torn q (q.length:Int) (i:Int) e q) (e',[])∧e'.length=p.length:=by
 intro n
 induction n with
 |zero=>
  intro i e hi he
  refine ⟨e,Ev.step (f:=fun _=>some (e,[])) (fun k=> ?_) (Ev.now _),Ev.step (f:=fun _=>some (e,[])) (fun k=> ?_) (Ev.now _),he⟩
  ·rw [spec_FallDisk.l0,if_neg zq5]
  ·rw [impl_FallDisk.l0,if_neg zq5]
 |succ n ih=>
  intro i e hi he
  have hlt:i<q.length:=by omega
  have w2:wrap64 ((i:Int)+1)=((i+1:Nat):Int):=by rw [zM zq5 zq5];omega
  obtain ⟨⟨g0,g1⟩,g2⟩:=hin _ (List.getElem_mem hlt)
  have w3:wrap64 ((q[i].f1.size:Int)/2)=(q[i].f1.size:Int)/2:=zM zq5 zq5
  have key:∀b:Bool,∃e1:List ByteArray,e1.length=p.length∧(∀k,spec_FallDisk.j1 (k+1) left torn (i:Int) b p q e=spec_FallDisk.l0 k left torn ((i+1:Nat):Int) p q e1)∧(∀k,impl_FallDisk.j1 (k+1) left torn (i:Int) q (q.length:Int) (i:Int) b e q q[i].f0 q[i].f1=impl_FallDisk.l0 k left torn q (q.length:Int) ((i+1:Nat):Int) e1 q):=by
   intro b
   cases b with
   |true=>
    refine ⟨e,he,fun k=> ?_,fun k=> ?_⟩
    ·rw [spec_FallDisk.j1,if_pos rfl,w2]
    ·rw [impl_FallDisk.j1,if_pos rfl,w2]
   |false=>
    by_cases ht:(i:Int)=torn
    ·refine ⟨e.set q[i].f0.toNat (q[i].f1.extract 0 ((q[i].f1.size:Int)/2).toNat),by rw [List.length_set];exact he,fun k=> ?_,fun k=> ?_⟩
     ·rw [spec_FallDisk.j1,if_neg zq14,if_pos zq5,if_pos zq5,if_pos ht,rd135 _ _ hlt,w3,if_pos zq5,if_pos zq5,if_pos g0,if_pos zq5,w2]
     ·rw [impl_FallDisk.j1,if_neg zq14,if_pos ht,w3,if_pos zq5,if_pos zq5,if_pos g0,if_pos zq5,w2]
    ·refine ⟨e.set q[i].f0.toNat q[i].f1,by rw [List.length_set];exact he,fun k=> ?_,fun k=> ?_⟩
     ·rw [spec_FallDisk.j1,if_neg zq14,if_pos zq5,if_pos zq5,if_neg ht,rd135 _ _ hlt,if_pos g0,if_pos zq5,w2]
     ·rw [impl_FallDisk.j1,if_neg zq14,if_neg ht,if_pos g0,if_pos zq5,w2]
  by_cases hL:(i:Int)≥(left.length:Int)
  ·obtain ⟨e1,k1,k2,k3⟩:=key true
   obtain ⟨e',a1,a2,a3⟩:=ih (i+1) e1 zq5 k1
   refine ⟨e',Ev.step (f:=fun k=>spec_FallDisk.j1 k left torn (i:Int) true p q e) (fun k=> ?_) (Ev.step k2 a1),Ev.step (f:=fun k=>impl_FallDisk.j1 k left torn (i:Int) q (q.length:Int) (i:Int) true e q q[i].f0 q[i].f1) (fun k=> ?_) (Ev.step k3 a2),a3⟩
   ·rw [spec_FallDisk.l0,if_pos zq5,if_pos hL]
   ·rw [impl_FallDisk.l0,if_pos zq5,if_pos zq5,if_pos zq5,if_pos hL,rd135 _ _ hlt]
  ·obtain ⟨e1,k1,k2,k3⟩:=key (!(zLa false left (i:Int)))
   obtain ⟨e',a1,a2,a3⟩:=ih (i+1) e1 zq5 k1
   refine ⟨e',Ev.step (f:=fun k=>spec_FallDisk.j1 k left torn (i:Int) (!(zLa false left (i:Int))) p q e) (fun k=> ?_) (Ev.step k2 a1),Ev.step (f:=fun k=>impl_FallDisk.j1 k left torn (i:Int) q (q.length:Int) (i:Int) (!(zLa false left (i:Int))) e q q[i].f0 q[i].f1) (fun k=> ?_) (Ev.step k3 a2),a3⟩
   ·rw [spec_FallDisk.l0,if_pos zq5,if_neg hL,if_pos zq5,if_pos zq5]
   ·rw [impl_FallDisk.l0,if_pos zq5,if_pos zq5,if_pos zq5,if_neg hL,if_pos zq5,rd135 _ _ hlt]
theorem fall_both (p:List ByteArray) (q:List S110) (left:List Bool) (torn:Int) (hp:p.length≤2000000) (hq:q.length≤2000000):∃r:(List ByteArray×List S110),Ev (fun k=>spec_FallDisk.f k p q left torn) (r.1,r.2)∧Ev (fun k=>impl_FallDisk.f k p q left torn) (r.1,r.2)∧r.1.length=p.length∧r.2.length≤q.length:=by
 have dS:=diskOkS_ev p q hp hq
 have cI:=cloneD_id p q hp hq
 have dI:impl_DiskOk.f p q=some (DOk p q):=rfl
 cases hd:DOk p q with
 |false=>
  rw [hd] at dS dI
  refine ⟨(p,q),Ev.bind dS ?_,?_,rfl,Nat.le_refl _⟩
  ·have e:spec_l03Copy.f p q=some (p,q):=by
    unfold spec_l03Copy.f
    simp
    omega
   simp only [if_neg (show ¬(false=true) by decide),e,Option.bind_some]
   exact Ev.now _
  ·unfold impl_FallDisk.f
   simp only [cI,Option.bind_some,dI,if_neg (show ¬(false=true) by decide)]
   exact Ev.now _
 |true=>
  rw [hd] at dS dI
  have h2:=hd
  unfold DOk at h2
  simp only [Bool.and_eq_true,Bool.not_eq_true'] at h2
  have hin:∀s∈q,(0≤s.f0∧s.f0<(p.length:Int))∧s.f1.size≤240:=by
   intro s hs
   have h3:=(List.any_eq_false.1 h2.2) s hs
   unfold badP inB bigT at h3
   simp only [Bool.not_eq_true,Bool.or_eq_false_iff,Bool.not_eq_false',Bool.and_eq_true,decide_eq_true_eq,decide_eq_false_iff_not] at h3
   omega
  obtain ⟨e',a1,a2,a3⟩:=fall_go p q left torn hp hq hin q.length 0 p zq5 rfl
  refine ⟨(e',[]),Ev.bind dS ?_,?_,a3,Nat.zero_le _⟩
  ·simp only [if_true,Option.bind_some,List.nil_append,List.length_nil,if_pos (show 0+p.length<8796093022208 by omega)]
   exact a1
  ·unfold impl_FallDisk.f
   simp only [cI,Option.bind_some,dI,if_true]
   exact a2
theorem toB_go (l:List Bool) (hl:l.length≤1048576):∀(n i:Nat),i+n=l.length→laws_toBoolS.l0 (n+1) l (l.take i++List.replicate n false) (i:Int)=some l:=by
 intro n
 induction n with
 |zero=>
  intro i hi
  rw [laws_toBoolS.l0,if_neg zq5,List.replicate_zero,List.append_nil,List.take_of_length_le zq5]
 |succ n ih=>
  intro i hi
  have hlt:i<l.length:=by omega
  have hti:(l.take i).length=i:=by rw [List.length_take];omega
  rw [laws_toBoolS.l0,if_pos zq5,if_pos zq5,if_pos zq51,rdOf_nat _ _ _ hlt,zM zq5 zq5,Int.toNat_natCast,List.replicate_succ]
  have:=set_front (l.take i) (List.replicate n false) false l[i]
  rw [hti] at this
  rw [this,List.take_append_getElem hlt,show (i:Int)+1=((i+1:Nat):Int) by omega]
  exact ih (i+1) zq5
theorem toB_ev (l:List Bool) (hl:l.length≤1048576):Ev (fun k=>laws_toBoolS.f k l) l:=by
 refine Ev.of (k:=l.length+1) (fun k=>laws_toBoolS.mono _ k) ?_
 unfold laws_toBoolS.f
 rw [if_pos zq5,if_pos zq59,Int.toNat_natCast]
 have:=toB_go l hl l.length 0 zq5
 simpa using this
theorem eqB_ev (l:List Bool) (hl:l.length≤1048576):Ev (fun k=>laws_eqBoolS.f k l l) true:=by
 have go:∀(n i:Nat),i+n=l.length→Ev (fun k=>laws_eqBoolS.l0 k l l (i:Int)) true:=by
  intro n
  induction n with
  |zero=>
   intro i hi
   exact Ev.step (f:=fun _=>some true) (fun k=>by rw [laws_eqBoolS.l0,if_neg zq5]) (Ev.now _)
  |succ n ih=>
   intro i hi
   refine Ev.step (f:=fun k=>laws_eqBoolS.l0 k l l ((i+1:Nat):Int)) (fun k=> ?_) (ih (i+1) zq5)
   rw [laws_eqBoolS.l0,if_pos zq5,if_pos zq5,if_pos zq5,if_neg zq15,zM zq5 zq5]
   rfl
 refine Ev.congr (fun k=> ?_) (go l.length 0 zq5)
 unfold laws_eqBoolS.f
 rw [if_pos rfl]
 rfl
theorem mkB_go:∀(n i:Nat) (l:List Bool) (a:Int),i+n=l.length→l.length≤1048576→0<a→a+n<4000000000000000000→∃l',Ev (fun k=>laws_markBoolS.l0 k l a (i:Int)) (a+n,l'):=by
 intro n
 induction n with
 |zero=>
  intro i l a hi hl h0 h1
  exact ⟨l,Ev.step (f:=fun _=>some (a+((0:Nat):Int),l)) (fun k=>by rw [laws_markBoolS.l0,if_neg zq5];simp) (Ev.now _)⟩
 |succ n ih=>
  intro i l a hi hl h0 h1
  obtain ⟨l',e1⟩:=ih (i+1) (l.set i (Int.tmod a 3==0)) (a+1) zq54 (by rw [List.length_set];exact hl) zq5 zq5
  rw [show a+1+(n:Int)=a+((n+1:Nat):Int) by omega] at e1
  refine ⟨l',Ev.step (f:=fun k=>laws_markBoolS.l0 k (l.set i (Int.tmod a 3==0)) (a+1) ((i+1:Nat):Int)) (fun k=> ?_) e1⟩
  rw [laws_markBoolS.l0,if_pos zq5,if_pos zq5,zM zq5 zq5,zM zq5 zq5,Int.toNat_natCast]
  rfl
theorem cut_ev (d:(S40×(List ByteArray×List S110×Int×List Int×List Int×List Int)×Int)) (h:OKt d) (stage:Int) (left:List Bool) (torn:Int):∃q:(List ByteArray×List S110),EvP (fun k=>SpecCut k d stage left torn q)∧EvP (fun k=>ImplCut k d stage left torn q)∧q.1.length≤1048576∧q.2.length≤1048577:=by
 have hl:d.2.1.1.length≤2000000∧d.2.1.2.1.length≤2000000:=⟨Nat.le_trans h.2.2.1.1 zq14,Nat.le_trans h.2.2.1.2 zq14⟩
 have hD:=h.2.2.1
 obtain ⟨m,b,nS,nI,hm,hk⟩:=nm_ev2 d h
 by_cases hw:zab d=true∨b=false∨stage=0
 ·obtain ⟨r,rS,rI,r1,r2⟩:=fall_both d.2.1.1 d.2.1.2.1 left torn hl.1 hl.2
  refine ⟨r,(nS.and (EvP.of rS)).imp (fun k hk=>⟨m,b,hk.1,.inl ⟨hw,hk.2⟩⟩),(nI.and (EvP.of rI)).imp (fun k hk=>⟨m,b,hk.1,.inl ⟨hw,hk.2⟩⟩),?_,?_⟩
  ·have:=hD.1;omega
  ·have:=hD.2;omega
 ·have hi:zab d=false:=by cases hh:zab d<;>simp_all
  have hb:b=true:=by cases hh:b<;>simp_all
  have hs:stage≠0:=fun hh=>hw (.inr (.inr hh))
  subst hb
  have hmk:=hk rfl
  obtain ⟨e,eS,eI,el⟩:=sync_both d.2.1.1 d.2.1.2.1 hl.1 hl.2
  obtain ⟨t,ok,ht,-⟩:=mt_ex_ vtN sealN m
  have el2:e.length≤2000000:=by rw [show e.length=_ from el];exact hl.1
  have tl:t.size≤240:=by
   rcases ht with ⟨-,e,-⟩|⟨-,-,e,-⟩|⟨-,g,e,-⟩
   ·rw [e];exact Nat.zero_le _
   ·rw [e];exact Nat.zero_le _
   ·rw [e];exact g
  cases hd:DOk e [] with
  |false=>
   have dI:impl_DiskOk.f e []=some false:=by unfold impl_DiskOk.f;rw [hd]
   have dS:=diskOkS_ev e [] el2 (Nat.zero_le _)
   rw [hd] at dS
   obtain ⟨r,rS,rI,r1,r2⟩:=fall_both e [] left torn el2 (Nat.zero_le _)
   refine ⟨r,(nS.and ((EvP.of eS).and ((EvP.of dS).and (txF.and (EvP.of rS))))).imp (fun k hk=>⟨m,true,hk.1,.inr ⟨hi,rfl,hs,t,ok,e,[],(e,[]),false,⟨vtN,sealN,hk.2.2.2.1,ht⟩,hk.2.1,hmk.f0,.inl ⟨rfl,⟨el2,Nat.zero_le _⟩,hk.2.2.1,hk.2.2.2.2⟩⟩⟩),(nI.and ((EvP.of eI).and (txF.and (EvP.of rI)))).imp (fun k hk=>⟨m,true,hk.1,.inr ⟨hi,rfl,hs,t,ok,e,[],(e,[]),false,⟨vtN,sealN,hk.2.2.1,ht⟩,hk.2.1,hmk.f0,.inl ⟨rfl,⟨el2,Nat.zero_le _⟩,dI,hk.2.2.2⟩⟩⟩),?_,?_⟩
   ·rw [r1,show e.length=_ from el];exact hD.1
   ·have:([]:List S110).length=0:=rfl
    omega
  |true=>
   have h4:4≤(e.length:Int):=by
    have h2:=hd
    unfold DOk inB at h2
    simp only [Bool.and_eq_true,decide_eq_true_eq] at h2
    exact h2.1.1.1.1
   have hr:wrOk e [] (m.f0%2) t=true:=by
    unfold wrOk
    rw [hd,zVa zq5,show bigT t=false from decide_eq_false zq5]
    rfl
   have wI:=writeI_f (e,[]) (m.f0%2) t el2 (Nat.zero_le _)
   have wS:=writeS_ev (e,[]) (m.f0%2) t el2 (Nat.zero_le _)
   obtain ⟨y,hy⟩:∃y,y=wrD (e,[]) (m.f0%2) t:=⟨_,rfl⟩
   rw [←hy] at wI wS
   replace wI:impl_WritePage.f e [] (m.f0%2) t=some (y.1,y.2,true):=by rw [←hr];exact wI
   replace wS:Ev (fun k=>spec_WritePage.f k e [] (m.f0%2) t) (y.1,y.2,true):=by rw [←hr];exact wS
   have yl:y.1.length=e.length∧y.2.length≤1:=by
    rw [hy]
    unfold wrD
    split<;>exact ⟨rfl,by simp⟩
   obtain ⟨r,rS,rI,r1,r2⟩:=fall_both y.1 y.2 left torn (by rw [yl.1];exact el2) (by have:=yl.2;omega)
   refine ⟨r,(nS.and ((EvP.of eS).and ((EvP.of wS).and (txF.and (EvP.of rS))))).imp (fun k hk=>⟨m,true,hk.1,.inr ⟨hi,rfl,hs,t,ok,e,[],y,true,⟨vtN,sealN,hk.2.2.2.1,ht⟩,hk.2.1,hmk.f0,.inr ⟨rfl,hk.2.2.1,hk.2.2.2.2⟩⟩⟩),(nI.and ((EvP.of eI).and (txF.and (EvP.of rI)))).imp (fun k hk=>⟨m,true,hk.1,.inr ⟨hi,rfl,hs,t,ok,e,[],y,true,⟨vtN,sealN,hk.2.2.1,ht⟩,hk.2.1,hmk.f0,.inr ⟨rfl,wI,hk.2.2.2⟩⟩⟩),?_,?_⟩
   ·rw [r1,yl.1,show e.length=_ from el];exact hD.1
   ·have:=yl.2;omega
theorem cut_law (a:(S24×(List ByteArray×List S156×Int×List Int×List Int×List Int)×Int)) (stage:Int) (left:List Bool) (torn:Int) (ha:INtr a) {cs:List Value} {v:Value} (w:World) (h:kTxnL.K w a cs) (hl:(Own.srow 4 Kd.bool).K w left [v]):
  Calls Tryz.prog 4 #[.agg cs.toArray,.int .i64 stage,v,.int .i64 torn] w fun e w'=>e= .returned (.bool true)∧Below w.heap.size w w':=by
 by_cases hln:(1048576:Int)<(left.length:Int)
 ·exact cut_long 0 a stage left torn w h hl hln
 obtain ⟨r,⟨K0,er⟩,hr⟩:=sz_txn a ha
 rcases hr with hr|⟨hr,ho⟩
 ·exact cut_small K0 a stage left torn r w h hl (er K0 (Nat.le_refl _)) hr hln
 ·obtain ⟨hto,hd⟩:=to_txn a ho
  obtain ⟨z,hsp,him,hz0,hz1⟩:=cut_ev (convT a) hd stage left torn
  obtain ⟨d',mk,hmk,mk0,mk1⟩:=mark_txn2 (convT a) hd
  obtain ⟨z0,z1⟩:=z
  have hz0:z0.length≤1048576:=hz0
  have hz1:z1.length≤1048577:=hz1
  obtain ⟨p,q,m1,d1⟩:=mhD_ev z0 z1 1 zq5 zq5 zq5 zq5
  obtain ⟨u,hu⟩:∃u:Int,u=1+z0.length+2*z1.length:=⟨_,rfl⟩
  rw [←hu] at m1 d1
  have e1:EvP (fun k=>EqDisk k (z0,z1)):=EvP.of (eqD_ev z0 z1 zq5 zq5)
  obtain ⟨left',mb⟩:=mkB_go left.length 0 left mk zq5 zq5 mk0 zq5
  obtain ⟨K,hK⟩:=(EvP.of ⟨K0,er⟩).and (hto.and (hsp.and (him.and (e1.and ((eq_txn (convT a) hd).and (hmk.and ((EvP.of m1).and ((EvP.of d1).and ((EvP.of (toB_ev left zq5)).and ((EvP.of (eqB_ev left zq5)).and (EvP.of mb)))))))))))
  obtain ⟨f1,f2,f3,f4,f5,f6,f7,f8,f9,f10,f11,f12⟩:=hK K (Nat.le_refl _)
  exact cut_great K a stage left torn r (convT a) d' (z0,z1) (p,q) left' mk (mk+left.length) u w h hl f1 f2 f10 f3 f4 f5 f6 f11 f7 f12 f8 f9 hr hln zq5 zq5
end Go.Proofs.YtonhdiemjgdcnaaGreat.PFnExactGivePage
namespace Go.Proofs.YtonhdiemjgdcnaaGreat.PFnExactGivePage
open Go.ChangeShapes Go.WideShapes Go.ChangeAt Go.RowKit
open Go.ChangeMaps (open_string shut_string)
open Go.Proofs.YtonhdiemjgdcnaaGreat.Opened Go.Proofs.YtonhdiemjgdcnaaGreatW.PrintWords
theorem open_bools {H:Type} {enc:TypeId×Value→H} {w:World} {base b0:Nat} {spare:Nat→Bool} {held:Bool} {r:Reach} {v:Value} {x:DataW H} {p:List MemPlace} (hv:Value.okWide Tryz.prog w r b0 55 v) (h:DataW.Trod enc Tryz.prog w base spare held 55 v x p):
  ∃(a:List Bool) (u:Value),v=u∧(Own.srow 4 Kd.bool).K w a [u]∧True:=by
 obtain ⟨a,len,cap,rfl⟩:=okWide_slice Tryz.underlying55 hv
 obtain ⟨fuel,hf⟩:=h
 obtain ⟨xs,⟨A,c,e,m,g⟩,-⟩:=zWa Tryz.underlying55 (opens_bool Tryz.underlying4) zq7 4 _ enc w base spare held fuel _ _ hf
 exact ⟨xs,_,rfl,⟨A,c,e,m,g⟩,trivial⟩
end Go.Proofs.YtonhdiemjgdcnaaGreat.PFnExactGivePage
namespace Go.Proofs.YtonhdiemjgdcnaaGreat.Head
def w1:List Char:=[104,97,114,110,101,115,115].map Char.ofNat
def w2:List Char:=[101,50,50,49,48,53,100,49,55,48,55,51,99,54,52,48,52,56,54,52,54,99,53,100,99,54,50,50,100,101,54,51,98,48,100,97,48,52,100,101,99,101,101,101,100,51,57,55,54,57,53,98,48,50,102,102,102,56,53,100,53,53,97,102].map Char.ofNat
def w3:List Char:=[99,117,116].map Char.ofNat
def w4:List Char:=[97,116,32,108,111,111,112,46,101,120,97,109,112,108,101,47,103,48,48,50,52,48,47,108,97,119,115,46,70,110,69,120,97,99,116,67,111,109,109,105,116,32,108,111,111,112,46,101,120,97,109,112,108,101,47,103,48,48,50,52,48,47,108,97,119,115,46,70,110,69,120,97,99,116,67,111,109,109,105,116,67,117,116,32,108,111,111,112,46,101,120,97,109,112,108,101,47,103,48,48,50,52,48,47,108,97,119,115,46,70,110,69,120,97,99,116,69,110,100,87,114,105,116,101].map Char.ofNat
def blank:Char:=Char.ofNat 32
theorem cut_at (a r:List Char) (h:a.all (· !=blank)=true):wordsSigns (a++blank::r)=a::wordsSigns r:=by
 induction a with
 |nil=>rfl
 |cons c a ih=>
  simp only [List.all_cons,Bool.and_eq_true,bne_iff_ne] at h
  have e:=ih h.2
  have hc:∀s,wordsSigns (c::s)=match wordsSigns s with|w::ws=>(c::w)::ws|[]=>[[c]]:=by
   intro s
   conv=>lhs;unfold wordsSigns
   split
   ·rename_i h0;cases h0
   ·rename_i h0
    injection h0 with h1 h2
    exact absurd h1 h.1
   ·rename_i h0 _ h1
    injection h1 with h2 h3
    subst h2
    subst h3
    rfl
  show wordsSigns (c::(a++blank::r))=_
  rw [hc,e]
theorem io:Tryz.prog.initOrder=String.ofList (w1++blank::(w2++blank::(w3++blank::w4))):=by kernel_rfl
theorem words:wordsSigns Tryz.prog.initOrder.toList=w1::w2::w3::wordsSigns w4:=by
 rw [io,String.toList_ofList,cut_at _ _ zq7,cut_at _ _ zq7,cut_at _ _ zq7]
theorem m0:((w1== "harness".toList||w1== "ownmain".toList)&&isSumSigns w2)=true:=by kernel_rfl
theorem m1:(w3== "gc".toList)=false:=by kernel_rfl
theorem m2:(w3== "spec".toList)=false:=by kernel_rfl
theorem m3:(w3== "cut".toList)=true:=by kernel_rfl
theorem m4:(w3== "carried".toList)=false:=by kernel_rfl
theorem m5 (R:List (List Char)):((w3::R).head?==some "cut".toList)=true:=by kernel_rfl
theorem m5c (R:List (List Char)):((w3::R).head?==some "carried".toList)=false:=by kernel_rfl
theorem m6 (R:List (List Char)):stripLifts liftWords (w3::R)=([],w3::R):=by kernel_rfl
theorem m7:Tryz.prog.laysLater=false:=by kernel_rfl
theorem m8:Tryz.prog.bearsReflect=false:=by kernel_rfl
theorem m9:Tryz.prog.doorFits []=true:=by kernel_rfl
theorem behind (R:List (List Char)):behindMainWord (w1::w2::R)=R:=by
 show (if ((w1== "harness".toList||w1== "ownmain".toList)&&isSumSigns w2)=true then R else w1::w2::R)=R
 rw [if_pos m0]
theorem beh:∃R,behindMainWord (wordsSigns Tryz.prog.initOrder.toList)=w3::R:=⟨wordsSigns w4,by rw [words,behind]⟩
theorem lifts_of (P:Program) (R:List (List Char)) (h:behindMainWord (wordsSigns P.initOrder.toList)=w3::R):(false==P.liftsFinal)=true:=by
 unfold Program.liftsFinal Program.headLifts
 rw [h]
 simp only [m5,m5c,m6]
 rfl
theorem may_of (P:Program) (R:List (List Char)) (h:behindMainWord (wordsSigns P.initOrder.toList)=w3::R) (h7:P.laysLater=false) (h8:P.bearsReflect=false) (h9:P.doorFits []=true):P.mayEnter=true:=by
 unfold Program.mayEnter
 rw [h]
 simp only [m1,m2,m4,m5,m6,h7,h8,h9]
 rfl
theorem made_of (P:Program) (R:List (List Char)) (h:behindMainWord (wordsSigns P.initOrder.toList)=w3::R):(P.make==some Make.cut)=true:=by
 unfold Program.make Program.headLifts
 rw [h]
 simp only [m1,m2,m3]
 rfl
theorem lifts:(false==Tryz.prog.liftsFinal)=true:=by
 obtain ⟨R,h⟩:=beh
 exact lifts_of _ R h
theorem may:Tryz.prog.mayEnter=true:=by
 obtain ⟨R,h⟩:=beh
 exact may_of _ R h m7 m8 m9
theorem made:(Tryz.prog.make==some Make.cut)=true:=by
 obtain ⟨R,h⟩:=beh
 exact made_of _ R h
theorem laid:laidOutB Tryz.prog=true:=by kernel_rfl
theorem maps:mapsRowed Tryz.prog=true:=by kernel_rfl
theorem heard:Tryz.prog.stopsHeard=true:=by kernel_rfl
theorem plain:(true==Tryz.prog.plainKeys)=true:=by kernel_rfl
end Go.Proofs.YtonhdiemjgdcnaaGreat.Head
