import Derived.Test.YtonhdiemjgdcnaaGreatCA10
set_option maxHeartbeats 64000000
set_option maxRecDepth 100000
set_option linter.unusedVariables false
set_option linter.unusedSimpArgs false
namespace Go.Proofs.YtonhdiemjgdcnaaGreat.PFnExactGivePage
open Go.RowKit Go.Proofs.YtonhdiemjgdcnaaGreatW.PrintWords Go.Proofs.YtonhdiemjgdcnaaGreatW.PrintLast Go.Proofs.YtonhdiemjgdcnaaGreatW.PrintMore
attribute [local go_sem] zka zma zta zsa zaa zba zja zla
theorem metaTextI_c (k:Nat) (x:S40) (t:ByteArray) (ok:Bool) {cs:List Value} (w:World) (h:k40.K w x cs) (ft:∃(vt:Int→ByteArray) (sl:ByteArray→ByteArray),TxF k vt sl∧MTxt vt sl x t ok):Calls Tryz.prog 92 #[.agg cs.toArray] w fun e w'=>e= .returned (.tuple #[.string t,.bool ok])∧Below w.heap.size w w':=by
 obtain ⟨vt,sl,T,hm⟩:=ft
 exact zNa T x t ok w h hm
theorem idleI_d (y:S40) (l0:List ByteArray) (l1:List S110) (l2:Int) (l3 l4 l5:List Int) (n:Int) (b:Bool) {cs:List Value} (w:World) (h:kTxn.K w (y,(l0,l1,l2,l3,l4,l5),n) cs) (hb:zyb (y,(l0,l1,l2,l3,l4,l5),n)=b):Calls Tryz.prog 42 #[.agg cs.toArray] w fun e w'=>e= .returned (.bool b)∧Below w.heap.size w w':=by
 rw [←hb]
 exact idleI_c y l0 l1 l2 l3 l4 l5 n w h
def metaWritten_t_T2:Bool×List (List Nat×List Nat):=(true,[([],[]),([0],[0]),([1],[1]),([2],[2]),([],[]),([4],[4]),([5,3],[5]),([],[]),([3,6,7,6],[3,6,7]),([8],[8]),([8],[8]),([9,8,0,1,2,3,4,5,6,7,8,9,10],[9]),([10,11,0,1,2,3,4,5,6,7,8,9,10,11],[10])])
def metaWritten_t_B2:List Nat:=[0,1,3,7,0,16,63,0,255,511,511,2047,4095]
theorem metaWritten_t_ok2_0:regT (zQa Tryz.f47 2) metaWritten_t_T2 metaWritten_t_B2 [] (.p 0 (.p 1 (.t 2 (.p 4 (.t 5 (.p 7 (.e 3 (.e 6 (.e 8 (.p 9 (.p 10 (.e 11 (.p 12 .d)))))))))))))=true:=by kernel_rfl
theorem metaWritten_t (k:Nat) (y:S40) (l0:List ByteArray) (l1:List S110) (l2:Int) (l3 l4 l5:List Int) (n:Int) (x:S40) (t:ByteArray) (ok:Bool) (e0:List ByteArray) (e1:List S110) (z:(List ByteArray×List S110)) {cs cx:List Value} (w:World) (h:kTxn.K w (y,(l0,l1,l2,l3,l4,l5),n) cs) (h2:k40.K w x cx) (ft:∃(vt:Int→ByteArray) (sl:ByteArray→ByteArray),TxF k vt sl∧MTxt vt sl x t ok) (fs:impl_SyncDisk.f k l0 l1=some (e0,e1)) (fx:0≤x.f0∧x.f0≤100000) (fw:impl_WritePage.f e0 e1 (x.f0%2) t=some (z.1,z.2,true)):
  Calls Tryz.prog 47 #[.agg cs.toArray,.agg cx.toArray] w fun e w'=>∃ds:List Value,e= .returned (.tuple #[.agg ds.toArray,.bool true])∧kDisk.M w' w.heap.size (Fr w w') z ds∧Below w.heap.size w w':=by
 have KS0:=h
 obtain ⟨cM,_,rfl,hM,cW_,cI,rfl,hW_,hI⟩:=h
 obtain rfl:cI=[.int .i64 n]:=hI
 obtain ⟨u0,_,rfl,hU0,u1,cW2,rfl,hU1,hW2⟩:=hW_
 have hV0:=hU0
 have hV1:=hU1
 obtain ⟨B0,d0,rfl,-,-⟩:=hU0
 obtain ⟨B1,d1,rfl,-,-⟩:=hU1
 obtain ⟨cs,hcs⟩:∃cs,cs=cM++([.slice B0 l0.length d0]++([.slice B1 l1.length d1]++(cW2++[.int .i64 n]))):=⟨_,rfl⟩
 simp only [List.append_assoc] at KS0 ⊢
 rw [←hcs] at KS0 ⊢
 have Ecs:=zz hcs
 have KS:=zz KS0
 have KM:=zz hM;have KW0:=zz (show (Own.srow 9 Kd.string).K w l0 [.slice B0 l0.length d0] from hV0);have KW1:=zz (show (Own.srow 110 k110).K w l1 [.slice B1 l1.length d1] from hV1);have KW2:=zz hW2
 have LM:=zz (show cM.length=4 from Kd.K_len _ hM);have LW2:=zz (show cW2.length=4 from Kd.K_len _ hW2);have Lcs:=zz (show cs.length=11 from Kd.K_len _ KS0)
 have FT:=zz ft;clear ft
 have FS:=zz fs;clear fs
 have FX:=zz fx;clear fx
 have FW:=zz fw;clear fw
 clear KS0 hM hV0 hV1 hW2 hcs
 have Kx0:=h2
 obtain ⟨Ax,kx,rfl,-,-⟩:=zEa h2
 obtain ⟨cx,hcx⟩:∃cs:List Value,cs=[.int .i64 x.f0,.int .i64 x.f1,.int .i64 x.f2,.slice Ax x.f3.length kx]:=⟨_,rfl⟩
 rw [←hcx] at Kx0 ⊢
 have Ex:=zz (show cx=([.int .i64 x.f0]:List Value)++(([.int .i64 x.f1]:List Value)++(([.int .i64 x.f2]:List Value)++([.slice Ax x.f3.length kx]:List Value))) from hcx);have Kx:=zz Kx0;have Lx:=zz (show cx.length=4 from Kd.K_len _ Kx0);clear hcx Kx0
 have O:=zz (Nat.le_refl w.heap.size)
 have E:=zz (Env.start w)
 go_enter Tryz.func47,Tryz.ntmps47
 go_wp2_with (first|((with_reducible refine zn (N:=9) rfl ?_);replace O:=zz (And.intro E.out.le O.out);replace E:=zz (E.out.alloc cs 46 (g:=w.heap.size) rfl);replace E:=zz (E.out.alloc cx 40 (g:=(w.heap.size+1)) zq16);replace E:=zz (E.out.alloc [.slice none 0 0,.slice none 0 0] 37 (g:=(w.heap.size+1+1)) zq16);refine zA rfl 40 _ rfl (w.heap.size+1) 0 [] cx [] _ rfl (E.out.box 1 rfl) zq6 (rfl) Tryz.underlying40 rfl (by rw [Lx.out];kernel_rfl) ?_))
 ((with_reducible refine (metaTextI_c k x t ok _ (E.out.K Kx.out) FT.out).mono ?_);rintro e w1_ ⟨rfl,hb⟩)
 replace E:=zz (E.out.call hb);clear hb
 go_upto_region 2 with (fail)
 replace E:=zz E.out.drew
 refine zca metaWritten_t_ok2_0 (S:=fun w'=>w'.heap[w.heap.size]?=some (.cells (cs:List Value).toArray 46 (0,0))∧w'.heap[(w.heap.size+1)]?=some (.cells (cx:List Value).toArray 40 (0,0))∧True) zq7 (fun _ _ _ _ h=>h) ⟨(E.out.box 2 rfl),(E.out.box 1 rfl),trivial⟩ (fun hHeld=> ?_)
 generalize hq:World.drew _=w2_ at hHeld ⊢;replace E:=E.out.to hq;clear hq
 iterate 2 (refine zY (v:= ?_) (a':= ?_) rfl rfl (Or.inl ⟨by rfl,?_⟩) ?_ ?_;rotate_left;(· intro w';go_simp;with_reducible rfl);rotate_left;(· show Act.put _ (some _) _=_;simp only [Act.put,s_A,s_0,s_1,zr];try rfl))
 refine zJ (a':= ?ax3_) rfl rfl zq15 37 _ rfl w.heap.size 4 cM [.slice B0 l0.length d0,.slice B1 l1.length d1] (cW2++[.int .i64 n]) _ rfl (fun w' hs=>hs.1) zq17 (LM.out) Tryz.underlying37 rfl zq7 ?px3_ ?kx3_
 case px3_=>(show Act.put _ (some _) _=_;simp only [Act.put,s_A,s_0,s_1,zr];try rfl)
 (refine zY (v:= ?_) (a':= ?_) rfl rfl (Or.inl ⟨by rfl,?_⟩) ?_ ?_;rotate_left;(· intro w';go_simp;with_reducible rfl);rotate_left;(· show Act.put _ (some _) _=_;simp only [Act.put,s_A,s_0,s_1,zr];try rfl))
 refine zDa (a':= ?ax4_) rfl rfl zq15 3 _ rfl (w.heap.size+1) 0 [] (.int .i64 x.f0) ([.int .i64 x.f1]++([.int .i64 x.f2]++[.slice Ax x.f3.length kx])) _ rfl (fun w' hs=>hs.2.1) (by rw [Ex.out];first|done|rfl|(simp only [aA,aN,aL];first|done|rfl)) (rfl) Tryz.underlying3 rfl ?px4_ ?kx4_
 case px4_=>(show Act.put _ (some _) _=_;simp only [Act.put,s_A,s_0,s_1,zr];try rfl)
 (refine zY (v:= ?_) (a':= ?_) rfl rfl (Or.inl ⟨by rfl,?_⟩) ?_ ?_;rotate_left;(· intro w';go_simp;with_reducible rfl);rotate_left;(· show Act.put _ (some _) _=_;simp only [Act.put,s_A,s_0,s_1,zr];try rfl))
 refine zW rfl (zL rfl Tryz.func43 zq7 rfl #[.agg [.slice B0 l0.length d0,.slice B1 l1.length d1].toArray] zq15 rfl zq10 ?_)
 with_reducible refine (implSync_o k l0 l1 e0 e1 _ (zoa (E.out.K KW0.out) (E.out.K KW1.out)) FS.out).mono ?_
 rintro e w5_ ⟨d6_,rfl,Md6_,hb⟩
 have q:=E.out.made4 O.out 2 rfl Md6_ hb;clear O E Md6_ hb;obtain ⟨n7_,m8_,Ld6_,Od6_,O,E⟩:=q
 refine ⟨_,rfl,⟨(E.out.box 3 rfl),(E.out.box 2 rfl),trivial⟩,(fun hHeld=> ?_)⟩
 refine zG (a':= ?_) ?_ ?_;rotate_left;(· show Act.put _ (some 16) _=_;simp only [Act.put,s_A,s_0,s_1,zr];try rfl)
 refine zW rfl (zL rfl Tryz.func96 zq7 rfl #[.int .i64 x.f0] zq15 rfl zq10 ?_)
 with_reducible refine (pageI_c x.f0 _ FX.out).mono ?_
 rintro e w9_ ⟨rfl,hb⟩
 replace E:=zz (E.out.call hb);clear hb
 refine ⟨_,rfl,⟨(E.out.box 3 rfl),(E.out.box 2 rfl),trivial⟩,(fun hHeld=> ?_)⟩
 refine zG (a':= ?_) ?_ ?_;rotate_left;(· show Act.put _ (some 19) _=_;simp only [Act.put,s_A,s_0,s_1,zr];try rfl)
 refine zW rfl (zL rfl Tryz.func95 zq7 rfl #[.agg d6_.toArray,.int .i64 (x.f0%2),.string t] zq15 rfl zq10 ?_)
 with_reducible refine (writeI_t k (e0,e1) z (x.f0%2) t _ (E.out.mk_ 0 rfl) FW.out).mono ?_
 rintro e w10_ ⟨d11_,rfl,Md11_,hb⟩
 have q:=E.out.made4 O.out 2 rfl Md11_ hb;clear O E Md11_ hb;obtain ⟨n12_,m13_,Ld11_,Od11_,O,E⟩:=q
 refine ⟨_,rfl,⟨(E.out.box 4 rfl),(E.out.box 3 rfl),trivial⟩,(fun hHeld=> ?_)⟩
 refine zG (a':= ?_) ?_ ?_;rotate_left;(· show Act.put _ (some 21) _=_;simp only [Act.put,s_A,s_0,s_1,zr];try rfl)
 iterate 2 (refine zY (v:= ?_) (a':= ?_) rfl rfl (Or.inl ⟨by rfl,?_⟩) ?_ ?_;rotate_left;(· intro w';go_simp;with_reducible rfl);rotate_left;(· show Act.put _ (some _) _=_;simp only [Act.put,s_A,s_0,s_1,zr];try rfl))
 refine zW rfl (zC rfl zq15 37 _ _ rfl (w.heap.size+1+1) 0 d11_ [] [.slice none 0 0,.slice none 0 0] [] rfl rfl (E.out.box 2 rfl) zq6 (rfl) (by rw [Ld11_.out];rfl) (by rw [Ld11_.out];kernel_rfl) Od11_.out (fun W14_ hp hn=> ?_))
 replace E:=E.out.put2 2 hp hn zq8;clear hp hn
 refine ⟨⟨(E.out.box 4 rfl),(E.out.box 3 rfl),trivial⟩,(fun hHeld=> ?_)⟩
 (refine zY (v:= ?_) (a':= ?_) rfl rfl (Or.inl ⟨by rfl,?_⟩) ?_ ?_;rotate_left;(· intro w';go_simp;with_reducible rfl);rotate_left;(· show Act.put _ (some _) _=_;simp only [Act.put,s_A,s_0,s_1,zr];try rfl))
 refine zX ?_
 clear hHeld
 go_wp2_with fail
 have BX:=zz (show _=some (Obj.cells (d11_:List Value).toArray 37 (0,0)) from by first|exact (E.out.box 2 rfl)|simpa only [aA,aN,aL] using (E.out.box 2 rfl))
 refine bodyPost_ret (zM (rs:=[.cell 4 37,.tmp 5]) rfl zq16 (.cell (w.heap.size+1+1) 37 _ _ _ rfl BX.out Tryz.underlying37 rfl zq36 (.tmp .nil))) rfl ?_
 exact ⟨_,rfl,(fresh (d:=kDisk) (E.out.made 0 rfl) (Nat.le_refl _)),E.out.below⟩
def metaWritten_f_T2:Bool×List (List Nat×List Nat):=(true,[([],[]),([0],[0]),([1],[1]),([2],[2]),([],[]),([4],[4]),([5,3],[5]),([],[]),([3,6,7,6],[3,6,7]),([8],[8]),([8],[8]),([9,8,0,1,2,3,4,5,6,7,8,9,10],[9]),([10,11,0,1,2,3,4,5,6,7,8,9,10,11],[10])])
def metaWritten_f_B2:List Nat:=[0,1,3,7,0,16,63,0,255,511,511,2047,4095]
theorem metaWritten_f_ok2_0:regT (zQa Tryz.f47 2) metaWritten_f_T2 metaWritten_f_B2 [] (.p 0 (.p 1 (.t 2 (.p 4 (.t 5 (.p 7 (.e 3 (.e 6 (.e 8 (.p 9 (.p 10 (.e 11 (.p 12 .d)))))))))))))=true:=by kernel_rfl
theorem metaWritten_f (k:Nat) (y:S40) (l0:List ByteArray) (l1:List S110) (l2:Int) (l3 l4 l5:List Int) (n:Int) (x:S40) (t:ByteArray) (ok:Bool) (e0:List ByteArray) (e1:List S110) {cs cx:List Value} (w:World) (h:kTxn.K w (y,(l0,l1,l2,l3,l4,l5),n) cs) (h2:k40.K w x cx) (ft:∃(vt:Int→ByteArray) (sl:ByteArray→ByteArray),TxF k vt sl∧MTxt vt sl x t ok) (fs:impl_SyncDisk.f k l0 l1=some (e0,e1)) (fx:0≤x.f0∧x.f0≤100000) (fe:e0.length≤2000000∧e1.length≤2000000) (fd:impl_DiskOk.f e0 e1=some false):
  Calls Tryz.prog 47 #[.agg cs.toArray,.agg cx.toArray] w fun e w'=>∃ds:List Value,e= .returned (.tuple #[.agg ds.toArray,.bool false])∧kDisk.M w' w.heap.size (Fr w w') (e0,e1) ds∧Below w.heap.size w w':=by
 have KS0:=h
 obtain ⟨cM,_,rfl,hM,cW_,cI,rfl,hW_,hI⟩:=h
 obtain rfl:cI=[.int .i64 n]:=hI
 obtain ⟨u0,_,rfl,hU0,u1,cW2,rfl,hU1,hW2⟩:=hW_
 have hV0:=hU0
 have hV1:=hU1
 obtain ⟨B0,d0,rfl,-,-⟩:=hU0
 obtain ⟨B1,d1,rfl,-,-⟩:=hU1
 obtain ⟨cs,hcs⟩:∃cs,cs=cM++([.slice B0 l0.length d0]++([.slice B1 l1.length d1]++(cW2++[.int .i64 n]))):=⟨_,rfl⟩
 simp only [List.append_assoc] at KS0 ⊢
 rw [←hcs] at KS0 ⊢
 have Ecs:=zz hcs
 have KS:=zz KS0
 have KM:=zz hM;have KW0:=zz (show (Own.srow 9 Kd.string).K w l0 [.slice B0 l0.length d0] from hV0);have KW1:=zz (show (Own.srow 110 k110).K w l1 [.slice B1 l1.length d1] from hV1);have KW2:=zz hW2
 have LM:=zz (show cM.length=4 from Kd.K_len _ hM);have LW2:=zz (show cW2.length=4 from Kd.K_len _ hW2);have Lcs:=zz (show cs.length=11 from Kd.K_len _ KS0)
 have FT:=zz ft;clear ft
 have FS:=zz fs;clear fs
 have FX:=zz fx;clear fx
 have FE:=zz fe;clear fe
 have FD:=zz fd;clear fd
 clear KS0 hM hV0 hV1 hW2 hcs
 have Kx0:=h2
 obtain ⟨Ax,kx,rfl,-,-⟩:=zEa h2
 obtain ⟨cx,hcx⟩:∃cs:List Value,cs=[.int .i64 x.f0,.int .i64 x.f1,.int .i64 x.f2,.slice Ax x.f3.length kx]:=⟨_,rfl⟩
 rw [←hcx] at Kx0 ⊢
 have Ex:=zz (show cx=([.int .i64 x.f0]:List Value)++(([.int .i64 x.f1]:List Value)++(([.int .i64 x.f2]:List Value)++([.slice Ax x.f3.length kx]:List Value))) from hcx);have Kx:=zz Kx0;have Lx:=zz (show cx.length=4 from Kd.K_len _ Kx0);clear hcx Kx0
 have O:=zz (Nat.le_refl w.heap.size)
 have E:=zz (Env.start w)
 go_enter Tryz.func47,Tryz.ntmps47
 go_wp2_with (first|((with_reducible refine zn (N:=9) rfl ?_);replace O:=zz (And.intro E.out.le O.out);replace E:=zz (E.out.alloc cs 46 (g:=w.heap.size) rfl);replace E:=zz (E.out.alloc cx 40 (g:=(w.heap.size+1)) zq16);replace E:=zz (E.out.alloc [.slice none 0 0,.slice none 0 0] 37 (g:=(w.heap.size+1+1)) zq16);refine zA rfl 40 _ rfl (w.heap.size+1) 0 [] cx [] _ rfl (E.out.box 1 rfl) zq6 (rfl) Tryz.underlying40 rfl (by rw [Lx.out];kernel_rfl) ?_))
 ((with_reducible refine (metaTextI_c k x t ok _ (E.out.K Kx.out) FT.out).mono ?_);rintro e w1_ ⟨rfl,hb⟩)
 replace E:=zz (E.out.call hb);clear hb
 go_upto_region 2 with (fail)
 replace E:=zz E.out.drew
 refine zca metaWritten_f_ok2_0 (S:=fun w'=>w'.heap[w.heap.size]?=some (.cells (cs:List Value).toArray 46 (0,0))∧w'.heap[(w.heap.size+1)]?=some (.cells (cx:List Value).toArray 40 (0,0))∧True) zq7 (fun _ _ _ _ h=>h) ⟨(E.out.box 2 rfl),(E.out.box 1 rfl),trivial⟩ (fun hHeld=> ?_)
 generalize hq:World.drew _=w2_ at hHeld ⊢;replace E:=E.out.to hq;clear hq
 iterate 2 (refine zY (v:= ?_) (a':= ?_) rfl rfl (Or.inl ⟨by rfl,?_⟩) ?_ ?_;rotate_left;(· intro w';go_simp;with_reducible rfl);rotate_left;(· show Act.put _ (some _) _=_;simp only [Act.put,s_A,s_0,s_1,zr];try rfl))
 refine zJ (a':= ?ax3_) rfl rfl zq15 37 _ rfl w.heap.size 4 cM [.slice B0 l0.length d0,.slice B1 l1.length d1] (cW2++[.int .i64 n]) _ rfl (fun w' hs=>hs.1) zq17 (LM.out) Tryz.underlying37 rfl zq7 ?px3_ ?kx3_
 case px3_=>(show Act.put _ (some _) _=_;simp only [Act.put,s_A,s_0,s_1,zr];try rfl)
 (refine zY (v:= ?_) (a':= ?_) rfl rfl (Or.inl ⟨by rfl,?_⟩) ?_ ?_;rotate_left;(· intro w';go_simp;with_reducible rfl);rotate_left;(· show Act.put _ (some _) _=_;simp only [Act.put,s_A,s_0,s_1,zr];try rfl))
 refine zDa (a':= ?ax4_) rfl rfl zq15 3 _ rfl (w.heap.size+1) 0 [] (.int .i64 x.f0) ([.int .i64 x.f1]++([.int .i64 x.f2]++[.slice Ax x.f3.length kx])) _ rfl (fun w' hs=>hs.2.1) (by rw [Ex.out];first|done|rfl|(simp only [aA,aN,aL];first|done|rfl)) (rfl) Tryz.underlying3 rfl ?px4_ ?kx4_
 case px4_=>(show Act.put _ (some _) _=_;simp only [Act.put,s_A,s_0,s_1,zr];try rfl)
 (refine zY (v:= ?_) (a':= ?_) rfl rfl (Or.inl ⟨by rfl,?_⟩) ?_ ?_;rotate_left;(· intro w';go_simp;with_reducible rfl);rotate_left;(· show Act.put _ (some _) _=_;simp only [Act.put,s_A,s_0,s_1,zr];try rfl))
 refine zW rfl (zL rfl Tryz.func43 zq7 rfl #[.agg [.slice B0 l0.length d0,.slice B1 l1.length d1].toArray] zq15 rfl zq10 ?_)
 with_reducible refine (implSync_o k l0 l1 e0 e1 _ (zoa (E.out.K KW0.out) (E.out.K KW1.out)) FS.out).mono ?_
 rintro e w5_ ⟨d6_,rfl,Md6_,hb⟩
 have q:=E.out.made4 O.out 2 rfl Md6_ hb;clear O E Md6_ hb;obtain ⟨n7_,m8_,Ld6_,Od6_,O,E⟩:=q
 refine ⟨_,rfl,⟨(E.out.box 3 rfl),(E.out.box 2 rfl),trivial⟩,(fun hHeld=> ?_)⟩
 refine zG (a':= ?_) ?_ ?_;rotate_left;(· show Act.put _ (some 16) _=_;simp only [Act.put,s_A,s_0,s_1,zr];try rfl)
 refine zW rfl (zL rfl Tryz.func96 zq7 rfl #[.int .i64 x.f0] zq15 rfl zq10 ?_)
 with_reducible refine (pageI_c x.f0 _ FX.out).mono ?_
 rintro e w9_ ⟨rfl,hb⟩
 replace E:=zz (E.out.call hb);clear hb
 refine ⟨_,rfl,⟨(E.out.box 3 rfl),(E.out.box 2 rfl),trivial⟩,(fun hHeld=> ?_)⟩
 refine zG (a':= ?_) ?_ ?_;rotate_left;(· show Act.put _ (some 19) _=_;simp only [Act.put,s_A,s_0,s_1,zr];try rfl)
 refine zW rfl (zL rfl Tryz.func95 zq7 rfl #[.agg d6_.toArray,.int .i64 (x.f0%2),.string t] zq15 rfl zq10 ?_)
 with_reducible refine (writeI_no k e0 e1 (x.f0%2) t _ (E.out.mk_ 0 rfl) FE.out FD.out).mono ?_
 rintro e w10_ ⟨d11_,rfl,Md11_,hb⟩
 have q:=E.out.made4 O.out 2 rfl Md11_ hb;clear O E Md11_ hb;obtain ⟨n12_,m13_,Ld11_,Od11_,O,E⟩:=q
 refine ⟨_,rfl,⟨(E.out.box 4 rfl),(E.out.box 3 rfl),trivial⟩,(fun hHeld=> ?_)⟩
 refine zG (a':= ?_) ?_ ?_;rotate_left;(· show Act.put _ (some 21) _=_;simp only [Act.put,s_A,s_0,s_1,zr];try rfl)
 iterate 2 (refine zY (v:= ?_) (a':= ?_) rfl rfl (Or.inl ⟨by rfl,?_⟩) ?_ ?_;rotate_left;(· intro w';go_simp;with_reducible rfl);rotate_left;(· show Act.put _ (some _) _=_;simp only [Act.put,s_A,s_0,s_1,zr];try rfl))
 refine zW rfl (zC rfl zq15 37 _ _ rfl (w.heap.size+1+1) 0 d11_ [] [.slice none 0 0,.slice none 0 0] [] rfl rfl (E.out.box 2 rfl) zq6 (rfl) (by rw [Ld11_.out];rfl) (by rw [Ld11_.out];kernel_rfl) Od11_.out (fun W14_ hp hn=> ?_))
 replace E:=E.out.put2 2 hp hn zq8;clear hp hn
 refine ⟨⟨(E.out.box 4 rfl),(E.out.box 3 rfl),trivial⟩,(fun hHeld=> ?_)⟩
 (refine zY (v:= ?_) (a':= ?_) rfl rfl (Or.inl ⟨by rfl,?_⟩) ?_ ?_;rotate_left;(· intro w';go_simp;with_reducible rfl);rotate_left;(· show Act.put _ (some _) _=_;simp only [Act.put,s_A,s_0,s_1,zr];try rfl))
 refine zX ?_
 clear hHeld
 go_wp2_with fail
 have BX:=zz (show _=some (Obj.cells (d11_:List Value).toArray 37 (0,0)) from by first|exact (E.out.box 2 rfl)|simpa only [aA,aN,aL] using (E.out.box 2 rfl))
 refine bodyPost_ret (zM (rs:=[.cell 4 37,.tmp 5]) rfl zq16 (.cell (w.heap.size+1+1) 37 _ _ _ rfl BX.out Tryz.underlying37 rfl zq36 (.tmp .nil))) rfl ?_
 exact ⟨_,rfl,(fresh (d:=kDisk) (E.out.made 0 rfl) (Nat.le_refl _)),E.out.below⟩
def commitI_A_T2:Bool×List (List Nat×List Nat):=(true,[([],[]),([0],[0]),([1],[1]),([2],[2]),([],[]),([4],[4]),([5,3],[5]),([3,6,0,1,2,3],[3]),([6,7,0,1,2,3,4,5,6,7],[6]),([8,0,1,2,3,4,5,6,7,8],[])])
def commitI_A_B2:List Nat:=[0,1,3,7,0,16,63,127,255,511]
theorem commitI_A_ok2_0:regT (zQa Tryz.f9 2) commitI_A_T2 commitI_A_B2 [] (.p 0 (.p 1 (.t 2 (.p 4 (.t 5 (.e 3 (.e 6 (.e 7 (.e 8 (.p 9 .d))))))))))=true:=by kernel_rfl
theorem commitI_A (k:Nat) (y:S40) (l0:List ByteArray) (l1:List S110) (l2:Int) (l3 l4 l5:List Int) (n:Int) (e0:List ByteArray) (e1:List S110) {cs:List Value} (w:World) (h:kTxn.K w (y,(l0,l1,l2,l3,l4,l5),n) cs) (fi:zyb (y,(l0,l1,l2,l3,l4,l5),n)=true) (f1:impl_cloneMeta.f k y.f0 y.f1 y.f2 y.f3=some (y.f0,y.f1,y.f2,y.f3)) (fs:impl_SyncDisk.f k l0 l1=some (e0,e1)):
  Calls Tryz.prog 9 #[.agg cs.toArray] w fun e w'=>∃ds es:List Value,e= .returned (.tuple #[.agg ds.toArray,.agg es.toArray,.bool true])∧Two w w' kDisk (e0,e1) ds k40 y es∧Below w.heap.size w w':=by
 have KS0:=h
 obtain ⟨cM,_,rfl,hM,cW_,cI,rfl,hW_,hI⟩:=h
 obtain rfl:cI=[.int .i64 n]:=hI
 obtain ⟨u0,_,rfl,hU0,u1,cW2,rfl,hU1,hW2⟩:=hW_
 have hV0:=hU0
 have hV1:=hU1
 obtain ⟨B0,d0,rfl,-,-⟩:=hU0
 obtain ⟨B1,d1,rfl,-,-⟩:=hU1
 obtain ⟨cs,hcs⟩:∃cs,cs=cM++([.slice B0 l0.length d0]++([.slice B1 l1.length d1]++(cW2++[.int .i64 n]))):=⟨_,rfl⟩
 simp only [List.append_assoc] at KS0 ⊢
 rw [←hcs] at KS0 ⊢
 have Ecs:=zz hcs
 have KS:=zz KS0
 have KM:=zz hM;have KW0:=zz (show (Own.srow 9 Kd.string).K w l0 [.slice B0 l0.length d0] from hV0);have KW1:=zz (show (Own.srow 110 k110).K w l1 [.slice B1 l1.length d1] from hV1);have KW2:=zz hW2
 have LM:=zz (show cM.length=4 from Kd.K_len _ hM);have LW2:=zz (show cW2.length=4 from Kd.K_len _ hW2);have Lcs:=zz (show cs.length=11 from Kd.K_len _ KS0)
 have FI:=zz fi;clear fi
 have F1:=zz f1;clear f1
 have FS:=zz fs;clear fs
 clear KS0 hM hV0 hV1 hW2 hcs
 have O:=zz (Nat.le_refl w.heap.size)
 have E:=zz (Env.start w)
 go_enter Tryz.func9,Tryz.ntmps9
 go_wp2_with (first|((with_reducible refine zn (N:=8) rfl ?_);replace O:=zz (And.intro E.out.le O.out);replace E:=zz (E.out.alloc cs 46 (g:=w.heap.size) rfl);replace E:=zz (E.out.alloc [.slice none 0 0,.slice none 0 0] 37 (g:=(w.heap.size+1)) zq16);replace E:=zz (E.out.alloc Z40 40 (g:=(w.heap.size+1+1)) zq16);refine zA rfl 46 _ rfl w.heap.size 0 [] cs [] _ rfl (E.out.box 2 rfl) zq6 (rfl) Tryz.underlying46 rfl zq32 ?_))
 ((with_reducible refine (idleI_d y l0 l1 l2 l3 l4 l5 n true _ (E.out.K KS.out) FI.out).mono ?_);rintro e w1_ ⟨rfl,hb⟩)
 replace E:=zz (E.out.call hb);clear hb
 go_upto_region 2 with (fail)
 replace E:=zz E.out.drew
 refine zca commitI_A_ok2_0 (S:=fun w'=>w'.heap[w.heap.size]?=some (.cells (cs:List Value).toArray 46 (0,0))∧True) zq7 (fun _ _ _ _ h=>h) ⟨(E.out.box 2 rfl),trivial⟩ (fun hHeld=> ?_)
 generalize hq:World.drew _=w2_ at hHeld ⊢;replace E:=E.out.to hq;clear hq
 iterate 2 (refine zY (v:= ?_) (a':= ?_) rfl rfl (Or.inl ⟨by rfl,?_⟩) ?_ ?_;rotate_left;(· intro w';go_simp;with_reducible rfl);rotate_left;(· show Act.put _ (some _) _=_;simp only [Act.put,s_A,s_0,s_1,zr];try rfl))
 refine zJ (a':= ?ax3_) rfl rfl zq15 37 _ rfl w.heap.size 4 cM [.slice B0 l0.length d0,.slice B1 l1.length d1] (cW2++[.int .i64 n]) _ rfl (fun w' hs=>hs.1) zq17 (LM.out) Tryz.underlying37 rfl zq7 ?px3_ ?kx3_
 case px3_=>(show Act.put _ (some _) _=_;simp only [Act.put,s_A,s_0,s_1,zr];try rfl)
 (refine zY (v:= ?_) (a':= ?_) rfl rfl (Or.inl ⟨by rfl,?_⟩) ?_ ?_;rotate_left;(· intro w';go_simp;with_reducible rfl);rotate_left;(· show Act.put _ (some _) _=_;simp only [Act.put,s_A,s_0,s_1,zr];try rfl))
 refine zJ (a':= ?ax4_) rfl rfl zq15 40 _ rfl w.heap.size 0 [] cM ([.slice B0 l0.length d0]++([.slice B1 l1.length d1]++(cW2++[.int .i64 n]))) _ rfl (fun w' hs=>hs.1) zq17 (rfl) Tryz.underlying40 rfl zq43 ?px4_ ?kx4_
 case px4_=>(show Act.put _ (some _) _=_;simp only [Act.put,s_A,s_0,s_1,zr];try rfl)
 refine zW rfl (zL rfl Tryz.func43 zq7 rfl #[.agg [.slice B0 l0.length d0,.slice B1 l1.length d1].toArray] zq15 rfl zq10 ?_)
 with_reducible refine (implSync_o k l0 l1 e0 e1 _ (zoa (E.out.K KW0.out) (E.out.K KW1.out)) FS.out).mono ?_
 rintro e w5_ ⟨d6_,rfl,Md6_,hb⟩
 have q:=E.out.made4 O.out 2 rfl Md6_ hb;clear O E Md6_ hb;obtain ⟨n7_,m8_,Ld6_,Od6_,O,E⟩:=q
 refine ⟨_,rfl,⟨(E.out.box 3 rfl),trivial⟩,(fun hHeld=> ?_)⟩
 refine zG (a':= ?_) ?_ ?_;rotate_left;(· show Act.put _ (some 13) _=_;simp only [Act.put,s_A,s_0,s_1,zr];try rfl)
 refine zW rfl (zL rfl Tryz.func44 zq7 rfl #[.agg cM.toArray] zq15 rfl zq10 ?_)
 with_reducible refine (cloneMeta_o k y y _ (E.out.K KM.out) F1.out).mono ?_
 rintro e w9_ ⟨d10_,rfl,Md10_,hb⟩
 have q:=E.out.made4 O.out 4 rfl Md10_ hb;clear O E Md10_ hb;obtain ⟨n11_,m12_,Ld10_,Od10_,O,E⟩:=q
 refine ⟨_,rfl,⟨(E.out.box 4 rfl),trivial⟩,(fun hHeld=> ?_)⟩
 refine zG (a':= ?_) ?_ ?_;rotate_left;(· show Act.put _ (some 16) _=_;simp only [Act.put,s_A,s_0,s_1,zr];try rfl)
 refine zW rfl (zC rfl zq15 37 _ _ rfl (w.heap.size+1) 0 d6_ [] [.slice none 0 0,.slice none 0 0] [] rfl rfl (E.out.box 3 rfl) zq6 (rfl) (by rw [Ld6_.out];rfl) (by rw [Ld6_.out];kernel_rfl) Od6_.out (fun W13_ hp hn=> ?_))
 replace E:=E.out.put2 3 hp hn zq8;clear hp hn
 refine ⟨⟨(E.out.box 4 rfl),trivial⟩,(fun hHeld=> ?_)⟩
 refine zW rfl (zC rfl zq15 40 _ _ rfl (w.heap.size+1+1) 0 d10_ [] Z40 [] rfl rfl (E.out.box 2 rfl) zq6 (rfl) (by rw [Ld10_.out];rfl) (by rw [Ld10_.out];kernel_rfl) Od10_.out (fun W14_ hp hn=> ?_))
 replace E:=E.out.put2 2 hp hn zq8;clear hp hn
 refine ⟨⟨(E.out.box 4 rfl),trivial⟩,(fun hHeld=> ?_)⟩
 (refine zY (v:= ?_) (a':= ?_) rfl rfl (Or.inl ⟨by rfl,?_⟩) ?_ ?_;rotate_left;(· intro w';go_simp;with_reducible rfl);rotate_left;(· show Act.put _ (some _) _=_;simp only [Act.put,s_A,s_0,s_1,zr];try rfl))
 refine zX ?_
 clear hHeld
 go_wp2_with fail
 have BX:=zz (show _=some (Obj.cells (d6_:List Value).toArray 37 (0,0)) from by first|exact (E.out.box 3 rfl)|simpa only [aA,aN,aL] using (E.out.box 3 rfl))
 have BX2:=zz (show _=some (Obj.cells (d10_:List Value).toArray 40 (0,0)) from by first|exact (E.out.box 2 rfl)|simpa only [aA,aN,aL] using (E.out.box 2 rfl))
 refine bodyPost_ret (zM (rs:=[.cell 2 37,.cell 3 40,.tmp 4]) rfl zq16 (.cell (w.heap.size+1) 37 _ _ _ rfl BX.out Tryz.underlying37 rfl (by rw [List.size_toArray,show (d6_:List Value).length=2 from Ld6_.out];kernel_rfl) (.cell (w.heap.size+1+1) 40 _ _ _ rfl BX2.out Tryz.underlying40 rfl (by rw [List.size_toArray,show (d10_:List Value).length=4 from Ld10_.out];kernel_rfl) (.tmp .nil)))) rfl ?_
 exact ⟨_,_,rfl,⟨n7_,m8_,n11_,m12_,zq22,(E.out.made 1 rfl),(E.out.made 0 rfl)⟩,E.out.below⟩
def commitI_B_T5:Bool×List (List Nat×List Nat):=(true,[([],[]),([0],[0]),([1],[1]),([2],[2]),([],[]),([4],[4]),([5,3],[5]),([3,6,0,1,2,3],[3]),([6,7,0,1,2,3,4,5,6,7],[6]),([8,0,1,2,3,4,5,6,7,8],[])])
def commitI_B_B5:List Nat:=[0,1,3,7,0,16,63,127,255,511]
theorem commitI_B_ok5_0:regT (zQa Tryz.f9 5) commitI_B_T5 commitI_B_B5 [] (.p 0 (.p 1 (.t 2 (.p 4 (.t 5 (.e 3 (.e 6 (.e 7 (.e 8 (.p 9 .d))))))))))=true:=by kernel_rfl
theorem commitI_B (k:Nat) (y:S40) (l0:List ByteArray) (l1:List S110) (l2:Int) (l3 l4 l5:List Int) (n:Int) (m:S40) {cs:List Value} (w:World) (h:kTxn.K w (y,(l0,l1,l2,l3,l4,l5),n) cs) (fi:zyb (y,(l0,l1,l2,l3,l4,l5),n)=false) (f1:impl_cloneMeta.f k y.f0 y.f1 y.f2 y.f3=some (y.f0,y.f1,y.f2,y.f3)) (fl:l0.length≤2000000∧l1.length≤2000000) (fn:ImplNM k (y,(l0,l1,l2,l3,l4,l5),n) m false):
  Calls Tryz.prog 9 #[.agg cs.toArray] w fun e w'=>∃ds es:List Value,e= .returned (.tuple #[.agg ds.toArray,.agg es.toArray,.bool false])∧Two w w' kDisk (l0,l1) ds k40 y es∧Below w.heap.size w w':=by
 have KS0:=h
 obtain ⟨cM,_,rfl,hM,cW_,cI,rfl,hW_,hI⟩:=h
 obtain rfl:cI=[.int .i64 n]:=hI
 obtain ⟨u0,_,rfl,hU0,u1,cW2,rfl,hU1,hW2⟩:=hW_
 have hV0:=hU0
 have hV1:=hU1
 obtain ⟨B0,d0,rfl,-,-⟩:=hU0
 obtain ⟨B1,d1,rfl,-,-⟩:=hU1
 obtain ⟨cs,hcs⟩:∃cs,cs=cM++([.slice B0 l0.length d0]++([.slice B1 l1.length d1]++(cW2++[.int .i64 n]))):=⟨_,rfl⟩
 simp only [List.append_assoc] at KS0 ⊢
 rw [←hcs] at KS0 ⊢
 have Ecs:=zz hcs
 have KS:=zz KS0
 have KM:=zz hM;have KW0:=zz (show (Own.srow 9 Kd.string).K w l0 [.slice B0 l0.length d0] from hV0);have KW1:=zz (show (Own.srow 110 k110).K w l1 [.slice B1 l1.length d1] from hV1);have KW2:=zz hW2
 have LM:=zz (show cM.length=4 from Kd.K_len _ hM);have LW2:=zz (show cW2.length=4 from Kd.K_len _ hW2);have Lcs:=zz (show cs.length=11 from Kd.K_len _ KS0)
 have FI:=zz fi;clear fi
 have F1:=zz f1;clear f1
 have FL:=zz fl;clear fl
 have FN:=zz fn;clear fn
 clear KS0 hM hV0 hV1 hW2 hcs
 have O:=zz (Nat.le_refl w.heap.size)
 have E:=zz (Env.start w)
 go_enter Tryz.func9,Tryz.ntmps9
 go_wp2_with (first|((with_reducible refine zn (N:=8) rfl ?_);replace O:=zz (And.intro E.out.le O.out);replace E:=zz (E.out.alloc cs 46 (g:=w.heap.size) rfl);replace E:=zz (E.out.alloc [.slice none 0 0,.slice none 0 0] 37 (g:=(w.heap.size+1)) zq16);replace E:=zz (E.out.alloc Z40 40 (g:=(w.heap.size+1+1)) zq16);refine zA rfl 46 _ rfl w.heap.size 0 [] cs [] _ rfl (E.out.box 2 rfl) zq6 (rfl) Tryz.underlying46 rfl zq32 ?_))
 ((with_reducible refine (idleI_d y l0 l1 l2 l3 l4 l5 n false _ (E.out.K KS.out) FI.out).mono ?_);rintro e w1_ ⟨rfl,hb⟩)
 replace E:=zz (E.out.call hb);clear hb
 go_wp2_with (first|((with_reducible refine zn (N:=18) rfl ?_);refine zA rfl 46 _ rfl w.heap.size 0 [] cs [] _ rfl (E.out.box 2 rfl) zq6 (rfl) Tryz.underlying46 rfl zq32 ?_))
 ((with_reducible refine (implNM_c k (y,(l0,l1,l2,l3,l4,l5),n) m false _ (E.out.K KS.out) FN.out).mono ?_);rintro e w2_ ⟨d3_,rfl,Md3_,hb⟩)
 have q:=E.out.made4 O.out 4 rfl Md3_ hb;clear O E Md3_ hb;obtain ⟨n4_,m5_,Ld3_,Od3_,O,E⟩:=q
 go_upto_region 5 with (first|((with_reducible refine zE (t:=40) (p:=5) rfl ?_);replace O:=zz (And.intro E.out.le O.out);replace E:=zz (E.out.alloc Z40 40 (g:=w2_.heap.size) rfl);refine zK rfl 40 _ _ rfl rfl w2_.heap.size 0 d3_ [] Z40 [] rfl rfl (E.out.box 0 rfl) zq6 (rfl) zq44 zq31 Od3_.out ?_;intro W6_ hp hn;replace E:=E.out.put2 0 hp hn zq8;clear hp hn))
 replace E:=zz E.out.drew
 refine zca commitI_B_ok5_0 (S:=fun w'=>w'.heap[w.heap.size]?=some (.cells (cs:List Value).toArray 46 (0,0))∧True) zq7 (fun _ _ _ _ h=>h) ⟨(E.out.box 4 rfl),trivial⟩ (fun hHeld=> ?_)
 generalize hq:World.drew _=w7_ at hHeld ⊢;replace E:=E.out.to hq;clear hq
 iterate 2 (refine zY (v:= ?_) (a':= ?_) rfl rfl (Or.inl ⟨by rfl,?_⟩) ?_ ?_;rotate_left;(· intro w';go_simp;with_reducible rfl);rotate_left;(· show Act.put _ (some _) _=_;simp only [Act.put,s_A,s_0,s_1,zr];try rfl))
 refine zJ (a':= ?ax8_) rfl rfl zq15 37 _ rfl w.heap.size 4 cM [.slice B0 l0.length d0,.slice B1 l1.length d1] (cW2++[.int .i64 n]) _ rfl (fun w' hs=>hs.1) zq17 (LM.out) Tryz.underlying37 rfl zq7 ?px8_ ?kx8_
 case px8_=>(show Act.put _ (some _) _=_;simp only [Act.put,s_A,s_0,s_1,zr];try rfl)
 (refine zY (v:= ?_) (a':= ?_) rfl rfl (Or.inl ⟨by rfl,?_⟩) ?_ ?_;rotate_left;(· intro w';go_simp;with_reducible rfl);rotate_left;(· show Act.put _ (some _) _=_;simp only [Act.put,s_A,s_0,s_1,zr];try rfl))
 refine zJ (a':= ?ax9_) rfl rfl zq15 40 _ rfl w.heap.size 0 [] cM ([.slice B0 l0.length d0]++([.slice B1 l1.length d1]++(cW2++[.int .i64 n]))) _ rfl (fun w' hs=>hs.1) zq17 (rfl) Tryz.underlying40 rfl zq43 ?px9_ ?kx9_
 case px9_=>(show Act.put _ (some _) _=_;simp only [Act.put,s_A,s_0,s_1,zr];try rfl)
 refine zW rfl (zL rfl Tryz.func46 zq7 rfl #[.agg [.slice B0 l0.length d0,.slice B1 l1.length d1].toArray] zq15 rfl zq10 ?_)
 with_reducible refine (cloneDisk_c (l0,l1) _ (zoa (E.out.K KW0.out) (E.out.K KW1.out)) FL.out).mono ?_
 rintro e w10_ ⟨d11_,rfl,Md11_,hb⟩
 have q:=E.out.made4 O.out 2 rfl Md11_ hb;clear O E Md11_ hb;obtain ⟨n12_,m13_,Ld11_,Od11_,O,E⟩:=q
 refine ⟨_,rfl,⟨(E.out.box 5 rfl),trivial⟩,(fun hHeld=> ?_)⟩
 refine zG (a':= ?_) ?_ ?_;rotate_left;(· show Act.put _ (some 27) _=_;simp only [Act.put,s_A,s_0,s_1,zr];try rfl)
 refine zW rfl (zL rfl Tryz.func44 zq7 rfl #[.agg cM.toArray] zq15 rfl zq10 ?_)
 with_reducible refine (cloneMeta_o k y y _ (E.out.K KM.out) F1.out).mono ?_
 rintro e w14_ ⟨d15_,rfl,Md15_,hb⟩
 have q:=E.out.made4 O.out 4 rfl Md15_ hb;clear O E Md15_ hb;obtain ⟨n16_,m17_,Ld15_,Od15_,O,E⟩:=q
 refine ⟨_,rfl,⟨(E.out.box 6 rfl),trivial⟩,(fun hHeld=> ?_)⟩
 refine zG (a':= ?_) ?_ ?_;rotate_left;(· show Act.put _ (some 30) _=_;simp only [Act.put,s_A,s_0,s_1,zr];try rfl)
 refine zW rfl (zC rfl zq15 37 _ _ rfl (w.heap.size+1) 0 d11_ [] [.slice none 0 0,.slice none 0 0] [] rfl rfl (E.out.box 5 rfl) zq6 (rfl) (by rw [Ld11_.out];rfl) (by rw [Ld11_.out];kernel_rfl) Od11_.out (fun W18_ hp hn=> ?_))
 replace E:=E.out.put2 5 hp hn zq8;clear hp hn
 refine ⟨⟨(E.out.box 6 rfl),trivial⟩,(fun hHeld=> ?_)⟩
 refine zW rfl (zC rfl zq15 40 _ _ rfl (w.heap.size+1+1) 0 d15_ [] Z40 [] rfl rfl (E.out.box 4 rfl) zq6 (rfl) (by rw [Ld15_.out];rfl) (by rw [Ld15_.out];kernel_rfl) Od15_.out (fun W19_ hp hn=> ?_))
 replace E:=E.out.put2 4 hp hn zq8;clear hp hn
 refine ⟨⟨(E.out.box 6 rfl),trivial⟩,(fun hHeld=> ?_)⟩
 (refine zY (v:= ?_) (a':= ?_) rfl rfl (Or.inl ⟨by rfl,?_⟩) ?_ ?_;rotate_left;(· intro w';go_simp;with_reducible rfl);rotate_left;(· show Act.put _ (some _) _=_;simp only [Act.put,s_A,s_0,s_1,zr];try rfl))
 refine zX ?_
 clear hHeld
 go_wp2_with fail
 have BX:=zz (show _=some (Obj.cells (d11_:List Value).toArray 37 (0,0)) from by first|exact (E.out.box 5 rfl)|simpa only [aA,aN,aL] using (E.out.box 5 rfl))
 have BX2:=zz (show _=some (Obj.cells (d15_:List Value).toArray 40 (0,0)) from by first|exact (E.out.box 4 rfl)|simpa only [aA,aN,aL] using (E.out.box 4 rfl))
 refine bodyPost_ret (zM (rs:=[.cell 2 37,.cell 3 40,.tmp 4]) rfl zq16 (.cell (w.heap.size+1) 37 _ _ _ rfl BX.out Tryz.underlying37 rfl zq36 (.cell (w.heap.size+1+1) 40 _ _ _ rfl BX2.out Tryz.underlying40 rfl (by rw [List.size_toArray,show (d15_:List Value).length=4 from Ld15_.out];kernel_rfl) (.tmp .nil)))) rfl ?_
 exact ⟨_,_,rfl,⟨n12_,m13_,n16_,m17_,zq22,(E.out.made 1 rfl),(E.out.made 0 rfl)⟩,E.out.below⟩
def commitI_C_T8:Bool×List (List Nat×List Nat):=(true,[([],[]),([0],[0]),([1],[1]),([2],[2]),([],[]),([4],[4]),([5,3],[5]),([3,6,0,1,2,3],[3]),([6,7,0,1,2,3,4,5,6,7],[6]),([8,0,1,2,3,4,5,6,7,8],[])])
def commitI_C_B8:List Nat:=[0,1,3,7,0,16,63,127,255,511]
theorem commitI_C_ok8_0:regT (zQa Tryz.f9 8) commitI_C_T8 commitI_C_B8 [] (.p 0 (.p 1 (.t 2 (.p 4 (.t 5 (.e 3 (.e 6 (.e 7 (.e 8 (.p 9 .d))))))))))=true:=by kernel_rfl
theorem commitI_C (k:Nat) (y:S40) (l0:List ByteArray) (l1:List S110) (l2:Int) (l3 l4 l5:List Int) (n:Int) (m:S40) (t:ByteArray) (ok:Bool) (e0:List ByteArray) (e1:List S110) {cs:List Value} (w:World) (h:kTxn.K w (y,(l0,l1,l2,l3,l4,l5),n) cs) (fi:zyb (y,(l0,l1,l2,l3,l4,l5),n)=false) (f1:impl_cloneMeta.f k y.f0 y.f1 y.f2 y.f3=some (y.f0,y.f1,y.f2,y.f3)) (fl:l0.length≤2000000∧l1.length≤2000000) (fn:ImplNM k (y,(l0,l1,l2,l3,l4,l5),n) m true) (ft:∃(vt:Int→ByteArray) (sl:ByteArray→ByteArray),TxF k vt sl∧MTxt vt sl m t ok) (fs:impl_SyncDisk.f k l0 l1=some (e0,e1)) (fx:0≤m.f0∧m.f0≤100000) (fe:e0.length≤2000000∧e1.length≤2000000) (fd:impl_DiskOk.f e0 e1=some false):
  Calls Tryz.prog 9 #[.agg cs.toArray] w fun e w'=>∃ds es:List Value,e= .returned (.tuple #[.agg ds.toArray,.agg es.toArray,.bool false])∧Two w w' kDisk (l0,l1) ds k40 y es∧Below w.heap.size w w':=by
 have KS0:=h
 obtain ⟨cM,_,rfl,hM,cW_,cI,rfl,hW_,hI⟩:=h
 obtain rfl:cI=[.int .i64 n]:=hI
 obtain ⟨u0,_,rfl,hU0,u1,cW2,rfl,hU1,hW2⟩:=hW_
 have hV0:=hU0
 have hV1:=hU1
 obtain ⟨B0,d0,rfl,-,-⟩:=hU0
 obtain ⟨B1,d1,rfl,-,-⟩:=hU1
 obtain ⟨cs,hcs⟩:∃cs,cs=cM++([.slice B0 l0.length d0]++([.slice B1 l1.length d1]++(cW2++[.int .i64 n]))):=⟨_,rfl⟩
 simp only [List.append_assoc] at KS0 ⊢
 rw [←hcs] at KS0 ⊢
 have Ecs:=zz hcs
 have KS:=zz KS0
 have KM:=zz hM;have KW0:=zz (show (Own.srow 9 Kd.string).K w l0 [.slice B0 l0.length d0] from hV0);have KW1:=zz (show (Own.srow 110 k110).K w l1 [.slice B1 l1.length d1] from hV1);have KW2:=zz hW2
 have LM:=zz (show cM.length=4 from Kd.K_len _ hM);have LW2:=zz (show cW2.length=4 from Kd.K_len _ hW2);have Lcs:=zz (show cs.length=11 from Kd.K_len _ KS0)
 have FI:=zz fi;clear fi
 have F1:=zz f1;clear f1
 have FL:=zz fl;clear fl
 have FN:=zz fn;clear fn
 have FT:=zz ft;clear ft
 have FS:=zz fs;clear fs
 have FX:=zz fx;clear fx
 have FE:=zz fe;clear fe
 have FD:=zz fd;clear fd
 clear KS0 hM hV0 hV1 hW2 hcs
 have O:=zz (Nat.le_refl w.heap.size)
 have E:=zz (Env.start w)
 go_enter Tryz.func9,Tryz.ntmps9
 go_wp2_with (first|((with_reducible refine zn (N:=8) rfl ?_);replace O:=zz (And.intro E.out.le O.out);replace E:=zz (E.out.alloc cs 46 (g:=w.heap.size) rfl);replace E:=zz (E.out.alloc [.slice none 0 0,.slice none 0 0] 37 (g:=(w.heap.size+1)) zq16);replace E:=zz (E.out.alloc Z40 40 (g:=(w.heap.size+1+1)) zq16);refine zA rfl 46 _ rfl w.heap.size 0 [] cs [] _ rfl (E.out.box 2 rfl) zq6 (rfl) Tryz.underlying46 rfl zq32 ?_))
 ((with_reducible refine (idleI_d y l0 l1 l2 l3 l4 l5 n false _ (E.out.K KS.out) FI.out).mono ?_);rintro e w1_ ⟨rfl,hb⟩)
 replace E:=zz (E.out.call hb);clear hb
 go_wp2_with (first|((with_reducible refine zn (N:=18) rfl ?_);refine zA rfl 46 _ rfl w.heap.size 0 [] cs [] _ rfl (E.out.box 2 rfl) zq6 (rfl) Tryz.underlying46 rfl zq32 ?_))
 ((with_reducible refine (implNM_c k (y,(l0,l1,l2,l3,l4,l5),n) m true _ (E.out.K KS.out) FN.out).mono ?_);rintro e w2_ ⟨d3_,rfl,Md3_,hb⟩)
 have q:=E.out.made4 O.out 4 rfl Md3_ hb;clear O E Md3_ hb;obtain ⟨n4_,m5_,Ld3_,Od3_,O,E⟩:=q
 go_wp2_with (first|((with_reducible refine zE (t:=40) (p:=5) rfl ?_);replace O:=zz (And.intro E.out.le O.out);replace E:=zz (E.out.alloc Z40 40 (g:=w2_.heap.size) rfl);refine zK rfl 40 _ _ rfl rfl w2_.heap.size 0 d3_ [] Z40 [] rfl rfl (E.out.box 0 rfl) zq6 (rfl) zq44 zq31 Od3_.out ?_;intro W6_ hp hn;replace E:=E.out.put2 0 hp hn zq8;clear hp hn)|((with_reducible refine zn (N:=32) rfl ?_);refine zA rfl 46 _ rfl w.heap.size 0 [] cs [] _ rfl (E.out.box 4 rfl) zq6 (rfl) Tryz.underlying46 rfl zq32 ?_)|((with_reducible refine zn (N:=33) rfl ?_);refine zA rfl 40 _ rfl w2_.heap.size 0 [] d3_ [] _ rfl (E.out.box 0 rfl) zq6 (rfl) Tryz.underlying40 rfl zq31 ?_))
 ((with_reducible refine (metaWritten_f k y l0 l1 l2 l3 l4 l5 n m t ok e0 e1 _ (E.out.K KS.out) (E.out.mk_ 1 rfl) FT.out FS.out FX.out FE.out FD.out).mono ?_);rintro e w7_ ⟨d8_,rfl,Md8_,hb⟩)
 have q:=E.out.made4 O.out 2 rfl Md8_ hb;clear O E Md8_ hb;obtain ⟨n9_,m10_,Ld8_,Od8_,O,E⟩:=q
 go_upto_region 8 with (first|((with_reducible refine zE (t:=37) (p:=7) rfl ?_);replace O:=zz (And.intro E.out.le O.out);replace E:=zz (E.out.alloc [.slice none 0 0,.slice none 0 0] 37 (g:=w7_.heap.size) rfl);refine zK rfl 37 _ _ rfl rfl w7_.heap.size 0 d8_ [] [.slice none 0 0,.slice none 0 0] [] rfl rfl (E.out.box 0 rfl) zq6 (rfl) (by rw [Ld8_.out];rfl) zq51 Od8_.out ?_;intro W11_ hp hn;replace E:=E.out.put2 0 hp hn zq8;clear hp hn))
 replace E:=zz E.out.drew
 refine zca commitI_C_ok8_0 (S:=fun w'=>w'.heap[w.heap.size]?=some (.cells (cs:List Value).toArray 46 (0,0))∧True) zq7 (fun _ _ _ _ h=>h) ⟨(E.out.box 6 rfl),trivial⟩ (fun hHeld=> ?_)
 generalize hq:World.drew _=w12_ at hHeld ⊢;replace E:=E.out.to hq;clear hq
 iterate 2 (refine zY (v:= ?_) (a':= ?_) rfl rfl (Or.inl ⟨by rfl,?_⟩) ?_ ?_;rotate_left;(· intro w';go_simp;with_reducible rfl);rotate_left;(· show Act.put _ (some _) _=_;simp only [Act.put,s_A,s_0,s_1,zr];try rfl))
 refine zJ (a':= ?ax13_) rfl rfl zq15 37 _ rfl w.heap.size 4 cM [.slice B0 l0.length d0,.slice B1 l1.length d1] (cW2++[.int .i64 n]) _ rfl (fun w' hs=>hs.1) zq17 (LM.out) Tryz.underlying37 rfl zq7 ?px13_ ?kx13_
 case px13_=>(show Act.put _ (some _) _=_;simp only [Act.put,s_A,s_0,s_1,zr];try rfl)
 (refine zY (v:= ?_) (a':= ?_) rfl rfl (Or.inl ⟨by rfl,?_⟩) ?_ ?_;rotate_left;(· intro w';go_simp;with_reducible rfl);rotate_left;(· show Act.put _ (some _) _=_;simp only [Act.put,s_A,s_0,s_1,zr];try rfl))
 refine zJ (a':= ?ax14_) rfl rfl zq15 40 _ rfl w.heap.size 0 [] cM ([.slice B0 l0.length d0]++([.slice B1 l1.length d1]++(cW2++[.int .i64 n]))) _ rfl (fun w' hs=>hs.1) zq17 (rfl) Tryz.underlying40 rfl zq43 ?px14_ ?kx14_
 case px14_=>(show Act.put _ (some _) _=_;simp only [Act.put,s_A,s_0,s_1,zr];try rfl)
 refine zW rfl (zL rfl Tryz.func46 zq7 rfl #[.agg [.slice B0 l0.length d0,.slice B1 l1.length d1].toArray] zq15 rfl zq10 ?_)
 with_reducible refine (cloneDisk_c (l0,l1) _ (zoa (E.out.K KW0.out) (E.out.K KW1.out)) FL.out).mono ?_
 rintro e w15_ ⟨d16_,rfl,Md16_,hb⟩
 have q:=E.out.made4 O.out 2 rfl Md16_ hb;clear O E Md16_ hb;obtain ⟨n17_,m18_,Ld16_,Od16_,O,E⟩:=q
 refine ⟨_,rfl,⟨(E.out.box 7 rfl),trivial⟩,(fun hHeld=> ?_)⟩
 refine zG (a':= ?_) ?_ ?_;rotate_left;(· show Act.put _ (some 42) _=_;simp only [Act.put,s_A,s_0,s_1,zr];try rfl)
 refine zW rfl (zL rfl Tryz.func44 zq7 rfl #[.agg cM.toArray] zq15 rfl zq10 ?_)
 with_reducible refine (cloneMeta_o k y y _ (E.out.K KM.out) F1.out).mono ?_
 rintro e w19_ ⟨d20_,rfl,Md20_,hb⟩
 have q:=E.out.made4 O.out 4 rfl Md20_ hb;clear O E Md20_ hb;obtain ⟨n21_,m22_,Ld20_,Od20_,O,E⟩:=q
 refine ⟨_,rfl,⟨(E.out.box 8 rfl),trivial⟩,(fun hHeld=> ?_)⟩
 refine zG (a':= ?_) ?_ ?_;rotate_left;(· show Act.put _ (some 45) _=_;simp only [Act.put,s_A,s_0,s_1,zr];try rfl)
 refine zW rfl (zC rfl zq15 37 _ _ rfl (w.heap.size+1) 0 d16_ [] [.slice none 0 0,.slice none 0 0] [] rfl rfl (E.out.box 7 rfl) zq6 (rfl) (by rw [Ld16_.out];rfl) (by rw [Ld16_.out];kernel_rfl) Od16_.out (fun W23_ hp hn=> ?_))
 replace E:=E.out.put2 7 hp hn zq8;clear hp hn
 refine ⟨⟨(E.out.box 8 rfl),trivial⟩,(fun hHeld=> ?_)⟩
 refine zW rfl (zC rfl zq15 40 _ _ rfl (w.heap.size+1+1) 0 d20_ [] Z40 [] rfl rfl (E.out.box 6 rfl) zq6 (rfl) (by rw [Ld20_.out];rfl) (by rw [Ld20_.out];kernel_rfl) Od20_.out (fun W24_ hp hn=> ?_))
 replace E:=E.out.put2 6 hp hn zq8;clear hp hn
 refine ⟨⟨(E.out.box 8 rfl),trivial⟩,(fun hHeld=> ?_)⟩
 (refine zY (v:= ?_) (a':= ?_) rfl rfl (Or.inl ⟨by rfl,?_⟩) ?_ ?_;rotate_left;(· intro w';go_simp;with_reducible rfl);rotate_left;(· show Act.put _ (some _) _=_;simp only [Act.put,s_A,s_0,s_1,zr];try rfl))
 refine zX ?_
 clear hHeld
 go_wp2_with fail
 have BX:=zz (show _=some (Obj.cells (d16_:List Value).toArray 37 (0,0)) from by first|exact (E.out.box 7 rfl)|simpa only [aA,aN,aL] using (E.out.box 7 rfl))
 have BX2:=zz (show _=some (Obj.cells (d20_:List Value).toArray 40 (0,0)) from by first|exact (E.out.box 6 rfl)|simpa only [aA,aN,aL] using (E.out.box 6 rfl))
 refine bodyPost_ret (zM (rs:=[.cell 2 37,.cell 3 40,.tmp 4]) rfl zq16 (.cell (w.heap.size+1) 37 _ _ _ rfl BX.out Tryz.underlying37 rfl (by rw [List.size_toArray,show (d16_:List Value).length=2 from Ld16_.out];kernel_rfl) (.cell (w.heap.size+1+1) 40 _ _ _ rfl BX2.out Tryz.underlying40 rfl (by rw [List.size_toArray,show (d20_:List Value).length=4 from Ld20_.out];kernel_rfl) (.tmp .nil)))) rfl ?_
 exact ⟨_,_,rfl,⟨n17_,m18_,n21_,m22_,zq22,(E.out.made 1 rfl),(E.out.made 0 rfl)⟩,E.out.below⟩
def commitI_D_T9:Bool×List (List Nat×List Nat):=(true,[([],[]),([0],[0]),([],[]),([1,1,0,1],[1]),([2,3,0,1,2,3],[2]),([4,0,1,2,3,4],[])])
def commitI_D_B9:List Nat:=[0,1,0,3,15,31]
theorem commitI_D_ok9_0:regT (zQa Tryz.f9 9) commitI_D_T9 commitI_D_B9 [] (.t 0 (.t 2 (.e 1 (.e 3 (.e 4 (.p 5 .d))))))=true:=by kernel_rfl
theorem commitI_D (k:Nat) (y:S40) (l0:List ByteArray) (l1:List S110) (l2:Int) (l3 l4 l5:List Int) (n:Int) (m:S40) (t:ByteArray) (ok:Bool) (e0:List ByteArray) (e1:List S110) (z:(List ByteArray×List S110)) (g0:List ByteArray) (g1:List S110) {cs:List Value} (w:World) (h:kTxn.K w (y,(l0,l1,l2,l3,l4,l5),n) cs) (fi:zyb (y,(l0,l1,l2,l3,l4,l5),n)=false) (fn:ImplNM k (y,(l0,l1,l2,l3,l4,l5),n) m true) (ft:∃(vt:Int→ByteArray) (sl:ByteArray→ByteArray),TxF k vt sl∧MTxt vt sl m t ok) (fs:impl_SyncDisk.f k l0 l1=some (e0,e1)) (fx:0≤m.f0∧m.f0≤100000) (fw:impl_WritePage.f e0 e1 (m.f0%2) t=some (z.1,z.2,true)) (fs2:impl_SyncDisk.f k z.1 z.2=some (g0,g1)):
  Calls Tryz.prog 9 #[.agg cs.toArray] w fun e w'=>∃ds es:List Value,e= .returned (.tuple #[.agg ds.toArray,.agg es.toArray,.bool true])∧Two w w' kDisk (g0,g1) ds k40 m es∧Below w.heap.size w w':=by
 have KS0:=h
 obtain ⟨cM,_,rfl,hM,cW_,cI,rfl,hW_,hI⟩:=h
 obtain rfl:cI=[.int .i64 n]:=hI
 obtain ⟨u0,_,rfl,hU0,u1,cW2,rfl,hU1,hW2⟩:=hW_
 have hV0:=hU0
 have hV1:=hU1
 obtain ⟨B0,d0,rfl,-,-⟩:=hU0
 obtain ⟨B1,d1,rfl,-,-⟩:=hU1
 obtain ⟨cs,hcs⟩:∃cs,cs=cM++([.slice B0 l0.length d0]++([.slice B1 l1.length d1]++(cW2++[.int .i64 n]))):=⟨_,rfl⟩
 simp only [List.append_assoc] at KS0 ⊢
 rw [←hcs] at KS0 ⊢
 have Ecs:=zz hcs
 have KS:=zz KS0
 have KM:=zz hM;have KW0:=zz (show (Own.srow 9 Kd.string).K w l0 [.slice B0 l0.length d0] from hV0);have KW1:=zz (show (Own.srow 110 k110).K w l1 [.slice B1 l1.length d1] from hV1);have KW2:=zz hW2
 have LM:=zz (show cM.length=4 from Kd.K_len _ hM);have LW2:=zz (show cW2.length=4 from Kd.K_len _ hW2);have Lcs:=zz (show cs.length=11 from Kd.K_len _ KS0)
 have FI:=zz fi;clear fi
 have FN:=zz fn;clear fn
 have FT:=zz ft;clear ft
 have FS:=zz fs;clear fs
 have FX:=zz fx;clear fx
 have FW:=zz fw;clear fw
 have FS2:=zz fs2;clear fs2
 clear KS0 hM hV0 hV1 hW2 hcs
 have O:=zz (Nat.le_refl w.heap.size)
 have E:=zz (Env.start w)
 go_enter Tryz.func9,Tryz.ntmps9
 go_wp2_with (first|((with_reducible refine zn (N:=8) rfl ?_);replace O:=zz (And.intro E.out.le O.out);replace E:=zz (E.out.alloc cs 46 (g:=w.heap.size) rfl);replace E:=zz (E.out.alloc [.slice none 0 0,.slice none 0 0] 37 (g:=(w.heap.size+1)) zq16);replace E:=zz (E.out.alloc Z40 40 (g:=(w.heap.size+1+1)) zq16);refine zA rfl 46 _ rfl w.heap.size 0 [] cs [] _ rfl (E.out.box 2 rfl) zq6 (rfl) Tryz.underlying46 rfl zq32 ?_))
 ((with_reducible refine (idleI_d y l0 l1 l2 l3 l4 l5 n false _ (E.out.K KS.out) FI.out).mono ?_);rintro e w1_ ⟨rfl,hb⟩)
 replace E:=zz (E.out.call hb);clear hb
 go_wp2_with (first|((with_reducible refine zn (N:=18) rfl ?_);refine zA rfl 46 _ rfl w.heap.size 0 [] cs [] _ rfl (E.out.box 2 rfl) zq6 (rfl) Tryz.underlying46 rfl zq32 ?_))
 ((with_reducible refine (implNM_c k (y,(l0,l1,l2,l3,l4,l5),n) m true _ (E.out.K KS.out) FN.out).mono ?_);rintro e w2_ ⟨d3_,rfl,Md3_,hb⟩)
 have q:=E.out.made4 O.out 4 rfl Md3_ hb;clear O E Md3_ hb;obtain ⟨n4_,m5_,Ld3_,Od3_,O,E⟩:=q
 go_wp2_with (first|((with_reducible refine zE (t:=40) (p:=5) rfl ?_);replace O:=zz (And.intro E.out.le O.out);replace E:=zz (E.out.alloc Z40 40 (g:=w2_.heap.size) rfl);refine zK rfl 40 _ _ rfl rfl w2_.heap.size 0 d3_ [] Z40 [] rfl rfl (E.out.box 0 rfl) zq6 (rfl) zq44 zq31 Od3_.out ?_;intro W6_ hp hn;replace E:=E.out.put2 0 hp hn zq8;clear hp hn)|((with_reducible refine zn (N:=32) rfl ?_);refine zA rfl 46 _ rfl w.heap.size 0 [] cs [] _ rfl (E.out.box 4 rfl) zq6 (rfl) Tryz.underlying46 rfl zq32 ?_)|((with_reducible refine zn (N:=33) rfl ?_);refine zA rfl 40 _ rfl w2_.heap.size 0 [] d3_ [] _ rfl (E.out.box 0 rfl) zq6 (rfl) Tryz.underlying40 rfl zq31 ?_))
 ((with_reducible refine (metaWritten_t k y l0 l1 l2 l3 l4 l5 n m t ok e0 e1 z _ (E.out.K KS.out) (E.out.mk_ 1 rfl) FT.out FS.out FX.out FW.out).mono ?_);rintro e w7_ ⟨d8_,rfl,Md8_,hb⟩)
 have q:=E.out.made4 O.out 2 rfl Md8_ hb;clear O E Md8_ hb;obtain ⟨n9_,m10_,Ld8_,Od8_,O,E⟩:=q
 go_upto_region 9 with (first|((with_reducible refine zE (t:=37) (p:=7) rfl ?_);replace O:=zz (And.intro E.out.le O.out);replace E:=zz (E.out.alloc [.slice none 0 0,.slice none 0 0] 37 (g:=w7_.heap.size) rfl);refine zK rfl 37 _ _ rfl rfl w7_.heap.size 0 d8_ [] [.slice none 0 0,.slice none 0 0] [] rfl rfl (E.out.box 0 rfl) zq6 (rfl) (by rw [Ld8_.out];rfl) zq51 Od8_.out ?_;intro W11_ hp hn;replace E:=E.out.put2 0 hp hn zq8;clear hp hn))
 replace E:=zz E.out.drew
 refine zca commitI_D_ok9_0 (S:=fun w'=>w'.heap[w7_.heap.size]?=some (.cells (([]++(d8_++[])):List Value).toArray 37 (0,0))∧w'.heap[w2_.heap.size]?=some (.cells (([]++(d3_++[])):List Value).toArray 40 (0,0))∧True) zq7 (fun _ _ _ _ h=>h) ⟨(E.out.box 0 rfl),(E.out.box 2 rfl),trivial⟩ (fun hHeld=> ?_)
 generalize hq:World.drew _=w12_ at hHeld ⊢;replace E:=E.out.to hq;clear hq
 refine zJ (a':= ?ax13_) rfl rfl zq15 37 _ rfl w7_.heap.size 0 [] d8_ [] _ rfl (fun w' hs=>hs.1) zq6 (rfl) Tryz.underlying37 rfl zq51 ?px13_ ?kx13_
 case px13_=>(show Act.put _ (some _) _=_;simp only [Act.put,s_A,s_0,s_1,zr];try rfl)
 refine zJ (a':= ?ax14_) rfl rfl zq15 40 _ rfl w2_.heap.size 0 [] d3_ [] _ rfl (fun w' hs=>hs.2.1) zq6 (rfl) Tryz.underlying40 rfl zq31 ?px14_ ?kx14_
 case px14_=>(show Act.put _ (some _) _=_;simp only [Act.put,s_A,s_0,s_1,zr];try rfl)
 refine zW rfl (zL rfl Tryz.func43 zq7 rfl #[.agg d8_.toArray] zq15 rfl zq10 ?_)
 with_reducible refine (implSync_o k z.1 z.2 g0 g1 _ (E.out.mk_ 1 rfl) FS2.out).mono ?_
 rintro e w15_ ⟨d16_,rfl,Md16_,hb⟩
 have q:=E.out.made4 O.out 2 rfl Md16_ hb;clear O E Md16_ hb;obtain ⟨n17_,m18_,Ld16_,Od16_,O,E⟩:=q
 refine ⟨_,rfl,⟨(E.out.box 1 rfl),(E.out.box 3 rfl),trivial⟩,(fun hHeld=> ?_)⟩
 refine zG (a':= ?_) ?_ ?_;rotate_left;(· show Act.put _ (some 47) _=_;simp only [Act.put,s_A,s_0,s_1,zr];try rfl)
 refine zW rfl (zC rfl zq15 37 _ _ rfl (w.heap.size+1) 0 d16_ [] [.slice none 0 0,.slice none 0 0] [] rfl rfl (E.out.box 6 rfl) zq6 (rfl) (by rw [Ld16_.out];rfl) (by rw [Ld16_.out];kernel_rfl) Od16_.out (fun W19_ hp hn=> ?_))
 replace E:=E.out.put2 6 hp hn zq8;clear hp hn
 refine ⟨⟨(E.out.box 1 rfl),(E.out.box 3 rfl),trivial⟩,(fun hHeld=> ?_)⟩
 refine zW rfl (zC rfl zq15 40 _ _ rfl (w.heap.size+1+1) 0 d3_ [] Z40 [] rfl rfl (E.out.box 5 rfl) zq6 (rfl) zq44 zq31 Od3_.out (fun W20_ hp hn=> ?_))
 replace E:=E.out.put2 5 hp hn zq8;clear hp hn
 refine ⟨⟨(E.out.box 1 rfl),(E.out.box 3 rfl),trivial⟩,(fun hHeld=> ?_)⟩
 (refine zY (v:= ?_) (a':= ?_) rfl rfl (Or.inl ⟨by rfl,?_⟩) ?_ ?_;rotate_left;(· intro w';go_simp;with_reducible rfl);rotate_left;(· show Act.put _ (some _) _=_;simp only [Act.put,s_A,s_0,s_1,zr];try rfl))
 refine zX ?_
 clear hHeld
 go_wp2_with fail
 have BX:=zz (show _=some (Obj.cells (d16_:List Value).toArray 37 (0,0)) from by first|exact (E.out.box 6 rfl)|simpa only [aA,aN,aL] using (E.out.box 6 rfl))
 have BX2:=zz (show _=some (Obj.cells (d3_:List Value).toArray 40 (0,0)) from by first|exact (E.out.box 5 rfl)|simpa only [aA,aN,aL] using (E.out.box 5 rfl))
 refine bodyPost_ret (zM (rs:=[.cell 2 37,.cell 3 40,.tmp 4]) rfl zq16 (.cell (w.heap.size+1) 37 _ _ _ rfl BX.out Tryz.underlying37 rfl (by rw [List.size_toArray,show (d16_:List Value).length=2 from Ld16_.out];kernel_rfl) (.cell (w.heap.size+1+1) 40 _ _ _ rfl BX2.out Tryz.underlying40 rfl zq34 (.tmp .nil)))) rfl ?_
 exact ⟨_,_,rfl,⟨n17_,m18_,n4_,m5_,zq22,(E.out.made 0 rfl),(E.out.made 4 rfl)⟩,E.out.below⟩
theorem metaTextS_c (k:Nat) (x:S40) (t:ByteArray) (ok:Bool) {cs:List Value} (w:World) (h:k40.K w x cs) (ft:∃(vt:Int→ByteArray) (sl:ByteArray→ByteArray),TxF k vt sl∧MTxt vt sl x t ok):Calls Tryz.prog 37 #[.agg cs.toArray] w fun e w'=>e= .returned (.tuple #[.string t,.bool ok])∧Below w.heap.size w w':=by
 obtain ⟨vt,sl,T,hm⟩:=ft
 exact zOa T x t ok w h hm
theorem idleS_d (y:S40) (l0:List ByteArray) (l1:List S110) (l2:Int) (l3 l4 l5:List Int) (n:Int) (b:Bool) {cs:List Value} (w:World) (h:kTxn.K w (y,(l0,l1,l2,l3,l4,l5),n) cs) (hb:zyb (y,(l0,l1,l2,l3,l4,l5),n)=b):Calls Tryz.prog 32 #[.agg cs.toArray] w fun e w'=>e= .returned (.bool b)∧Below w.heap.size w w':=by
 rw [←hb]
 exact idleS_c y l0 l1 l2 l3 l4 l5 n w h
theorem meta_lit {W:World} {base:Nat} {ok:Nat→Prop} {x:S40} {ds:List Value} (h:k40.M W base ok x ds):∃A c,ds=[.int .i64 x.f0]++([.int .i64 x.f1]++([.int .i64 x.f2]++[.slice A x.f3.length c])):=by
 obtain ⟨v3,rfl,R⟩:=k40_openM h
 obtain ⟨A,c,rfl⟩:=Kd.S_slice R
 exact ⟨A,c,rfl⟩
def commitS_A_T2:Bool×List (List Nat×List Nat):=(true,[([],[]),([0],[0]),([1],[1]),([2],[2]),([],[]),([4],[4]),([5,3],[5]),([3,6,0,1,2,3],[3]),([6,7,0,1,2,3,4,5,6,7],[6]),([8,0,1,2,3,4,5,6,7,8],[])])
def commitS_A_B2:List Nat:=[0,1,3,7,0,16,63,127,255,511]
theorem commitS_A_ok2_0:regT (zQa Tryz.f7 2) commitS_A_T2 commitS_A_B2 [] (.p 0 (.p 1 (.t 2 (.p 4 (.t 5 (.e 3 (.e 6 (.e 7 (.e 8 (.p 9 .d))))))))))=true:=by kernel_rfl
theorem commitS_A (k:Nat) (y:S40) (l0:List ByteArray) (l1:List S110) (l2:Int) (l3 l4 l5:List Int) (n:Int) (e0:List ByteArray) (e1:List S110) {cs:List Value} (w:World) (h:kTxn.K w (y,(l0,l1,l2,l3,l4,l5),n) cs) (fi:zyb (y,(l0,l1,l2,l3,l4,l5),n)=true) (f1:SmallM y) (fs:spec_SyncDisk.f k l0 l1=some (e0,e1)):
  Calls Tryz.prog 7 #[.agg cs.toArray] w fun e w'=>∃ds es:List Value,e= .returned (.tuple #[.agg ds.toArray,.agg es.toArray,.bool true])∧Two w w' kDisk (e0,e1) ds k40 y es∧Below w.heap.size w w':=by
 have KS0:=h
 obtain ⟨cM,_,rfl,hM,cW_,cI,rfl,hW_,hI⟩:=h
 obtain rfl:cI=[.int .i64 n]:=hI
 obtain ⟨u0,_,rfl,hU0,u1,cW2,rfl,hU1,hW2⟩:=hW_
 have hV0:=hU0
 have hV1:=hU1
 obtain ⟨B0,d0,rfl,-,-⟩:=hU0
 obtain ⟨B1,d1,rfl,-,-⟩:=hU1
 obtain ⟨cs,hcs⟩:∃cs,cs=cM++([.slice B0 l0.length d0]++([.slice B1 l1.length d1]++(cW2++[.int .i64 n]))):=⟨_,rfl⟩
 simp only [List.append_assoc] at KS0 ⊢
 rw [←hcs] at KS0 ⊢
 have Ecs:=zz hcs
 have KS:=zz KS0
 have KM:=zz hM;have KW0:=zz (show (Own.srow 9 Kd.string).K w l0 [.slice B0 l0.length d0] from hV0);have KW1:=zz (show (Own.srow 110 k110).K w l1 [.slice B1 l1.length d1] from hV1);have KW2:=zz hW2
 have LM:=zz (show cM.length=4 from Kd.K_len _ hM);have LW2:=zz (show cW2.length=4 from Kd.K_len _ hW2);have Lcs:=zz (show cs.length=11 from Kd.K_len _ KS0)
 have FI:=zz fi;clear fi
 have F1:=zz f1;clear f1
 have FS:=zz fs;clear fs
 clear KS0 hM hV0 hV1 hW2 hcs
 have O:=zz (Nat.le_refl w.heap.size)
 have E:=zz (Env.start w)
 go_enter Tryz.func7,Tryz.ntmps7
 go_wp2_with (first|((with_reducible refine zn (N:=11) rfl ?_);replace O:=zz (And.intro E.out.le O.out);replace E:=zz (E.out.alloc cs 46 (g:=w.heap.size) rfl);replace E:=zz (E.out.alloc [.slice none 0 0,.slice none 0 0] 37 (g:=(w.heap.size+1)) zq16);replace E:=zz (E.out.alloc Z40 40 (g:=(w.heap.size+1+1)) zq16);refine zA rfl 46 _ rfl w.heap.size 0 [] cs [] _ rfl (E.out.box 2 rfl) zq6 (rfl) Tryz.underlying46 rfl zq32 ?_))
 ((with_reducible refine (idleS_d y l0 l1 l2 l3 l4 l5 n true _ (E.out.K KS.out) FI.out).mono ?_);rintro e w1_ ⟨rfl,hb⟩)
 replace E:=zz (E.out.call hb);clear hb
 go_upto_region 2 with (fail)
 replace E:=zz E.out.drew
 refine zca commitS_A_ok2_0 (S:=fun w'=>w'.heap[w.heap.size]?=some (.cells (cs:List Value).toArray 46 (0,0))∧True) zq7 (fun _ _ _ _ h=>h) ⟨(E.out.box 2 rfl),trivial⟩ (fun hHeld=> ?_)
 generalize hq:World.drew _=w2_ at hHeld ⊢;replace E:=E.out.to hq;clear hq
 iterate 2 (refine zY (v:= ?_) (a':= ?_) rfl rfl (Or.inl ⟨by rfl,?_⟩) ?_ ?_;rotate_left;(· intro w';go_simp;with_reducible rfl);rotate_left;(· show Act.put _ (some _) _=_;simp only [Act.put,s_A,s_0,s_1,zr];try rfl))
 refine zJ (a':= ?ax3_) rfl rfl zq15 37 _ rfl w.heap.size 4 cM [.slice B0 l0.length d0,.slice B1 l1.length d1] (cW2++[.int .i64 n]) _ rfl (fun w' hs=>hs.1) zq17 (LM.out) Tryz.underlying37 rfl zq7 ?px3_ ?kx3_
 case px3_=>(show Act.put _ (some _) _=_;simp only [Act.put,s_A,s_0,s_1,zr];try rfl)
 (refine zY (v:= ?_) (a':= ?_) rfl rfl (Or.inl ⟨by rfl,?_⟩) ?_ ?_;rotate_left;(· intro w';go_simp;with_reducible rfl);rotate_left;(· show Act.put _ (some _) _=_;simp only [Act.put,s_A,s_0,s_1,zr];try rfl))
 refine zJ (a':= ?ax4_) rfl rfl zq15 40 _ rfl w.heap.size 0 [] cM ([.slice B0 l0.length d0]++([.slice B1 l1.length d1]++(cW2++[.int .i64 n]))) _ rfl (fun w' hs=>hs.1) zq17 (rfl) Tryz.underlying40 rfl zq43 ?px4_ ?kx4_
 case px4_=>(show Act.put _ (some _) _=_;simp only [Act.put,s_A,s_0,s_1,zr];try rfl)
 refine zW rfl (zL rfl Tryz.func33 zq7 rfl #[.agg [.slice B0 l0.length d0,.slice B1 l1.length d1].toArray] zq15 rfl zq10 ?_)
 with_reducible refine (zIa k l0 l1 e0 e1 _ (zoa (E.out.K KW0.out) (E.out.K KW1.out)) FS.out).mono ?_
 rintro e w5_ ⟨d6_,rfl,Md6_,hb⟩
 have q:=E.out.made4 O.out 2 rfl Md6_ hb;clear O E Md6_ hb;obtain ⟨n7_,m8_,Ld6_,Od6_,O,E⟩:=q
 refine ⟨_,rfl,⟨(E.out.box 3 rfl),trivial⟩,(fun hHeld=> ?_)⟩
 refine zG (a':= ?_) ?_ ?_;rotate_left;(· show Act.put _ (some 16) _=_;simp only [Act.put,s_A,s_0,s_1,zr];try rfl)
 refine zW rfl (zL rfl Tryz.func34 zq7 rfl #[.agg cM.toArray] zq15 rfl zq10 ?_)
 with_reducible refine (zCb y y _ (E.out.K KM.out) ⟨rfl,F1.out⟩).mono ?_
 rintro e w9_ ⟨d10_,rfl,Md10_,hb⟩
 have q:=E.out.made4 O.out 4 rfl Md10_ hb;clear O E Md10_ hb;obtain ⟨n11_,m12_,Ld10_,Od10_,O,E⟩:=q
 refine ⟨_,rfl,⟨(E.out.box 4 rfl),trivial⟩,(fun hHeld=> ?_)⟩
 refine zG (a':= ?_) ?_ ?_;rotate_left;(· show Act.put _ (some 19) _=_;simp only [Act.put,s_A,s_0,s_1,zr];try rfl)
 refine zW rfl (zC rfl zq15 37 _ _ rfl (w.heap.size+1) 0 d6_ [] [.slice none 0 0,.slice none 0 0] [] rfl rfl (E.out.box 3 rfl) zq6 (rfl) (by rw [Ld6_.out];rfl) (by rw [Ld6_.out];kernel_rfl) Od6_.out (fun W13_ hp hn=> ?_))
 replace E:=E.out.put2 3 hp hn zq8;clear hp hn
 refine ⟨⟨(E.out.box 4 rfl),trivial⟩,(fun hHeld=> ?_)⟩
 refine zW rfl (zC rfl zq15 40 _ _ rfl (w.heap.size+1+1) 0 d10_ [] Z40 [] rfl rfl (E.out.box 2 rfl) zq6 (rfl) (by rw [Ld10_.out];rfl) (by rw [Ld10_.out];kernel_rfl) Od10_.out (fun W14_ hp hn=> ?_))
 replace E:=E.out.put2 2 hp hn zq8;clear hp hn
 refine ⟨⟨(E.out.box 4 rfl),trivial⟩,(fun hHeld=> ?_)⟩
 (refine zY (v:= ?_) (a':= ?_) rfl rfl (Or.inl ⟨by rfl,?_⟩) ?_ ?_;rotate_left;(· intro w';go_simp;with_reducible rfl);rotate_left;(· show Act.put _ (some _) _=_;simp only [Act.put,s_A,s_0,s_1,zr];try rfl))
 refine zX ?_
 clear hHeld
 go_wp2_with fail
 have BX:=zz (show _=some (Obj.cells (d6_:List Value).toArray 37 (0,0)) from by first|exact (E.out.box 3 rfl)|simpa only [aA,aN,aL] using (E.out.box 3 rfl))
 have BX2:=zz (show _=some (Obj.cells (d10_:List Value).toArray 40 (0,0)) from by first|exact (E.out.box 2 rfl)|simpa only [aA,aN,aL] using (E.out.box 2 rfl))
 refine bodyPost_ret (zM (rs:=[.cell 2 37,.cell 3 40,.tmp 4]) rfl zq16 (.cell (w.heap.size+1) 37 _ _ _ rfl BX.out Tryz.underlying37 rfl (by rw [List.size_toArray,show (d6_:List Value).length=2 from Ld6_.out];kernel_rfl) (.cell (w.heap.size+1+1) 40 _ _ _ rfl BX2.out Tryz.underlying40 rfl (by rw [List.size_toArray,show (d10_:List Value).length=4 from Ld10_.out];kernel_rfl) (.tmp .nil)))) rfl ?_
 exact ⟨_,_,rfl,⟨n7_,m8_,n11_,m12_,zq22,(E.out.made 1 rfl),(E.out.made 0 rfl)⟩,E.out.below⟩
def commitS_B_T5:Bool×List (List Nat×List Nat):=(true,[([],[]),([0],[0]),([1],[1]),([2],[2]),([],[]),([4],[4]),([5,3],[5]),([3,6,0,1,2,3],[3]),([6,7,0,1,2,3,4,5,6,7],[6]),([8,0,1,2,3,4,5,6,7,8],[])])
def commitS_B_B5:List Nat:=[0,1,3,7,0,16,63,127,255,511]
theorem commitS_B_ok5_0:regT (zQa Tryz.f7 5) commitS_B_T5 commitS_B_B5 [] (.p 0 (.p 1 (.t 2 (.p 4 (.t 5 (.e 3 (.e 6 (.e 7 (.e 8 (.p 9 .d))))))))))=true:=by kernel_rfl
theorem commitS_B (k:Nat) (y:S40) (l0:List ByteArray) (l1:List S110) (l2:Int) (l3 l4 l5:List Int) (n:Int) (m:S40) {cs:List Value} (w:World) (h:kTxn.K w (y,(l0,l1,l2,l3,l4,l5),n) cs) (fi:zyb (y,(l0,l1,l2,l3,l4,l5),n)=false) (f1:SmallM y) (fl:l0.length≤2000000∧l1.length≤2000000) (fn:SpecNM k (y,(l0,l1,l2,l3,l4,l5),n) m false):
  Calls Tryz.prog 7 #[.agg cs.toArray] w fun e w'=>∃ds es:List Value,e= .returned (.tuple #[.agg ds.toArray,.agg es.toArray,.bool false])∧Two w w' kDisk (l0,l1) ds k40 y es∧Below w.heap.size w w':=by
 have KS0:=h
 obtain ⟨cM,_,rfl,hM,cW_,cI,rfl,hW_,hI⟩:=h
 obtain rfl:cI=[.int .i64 n]:=hI
 obtain ⟨u0,_,rfl,hU0,u1,cW2,rfl,hU1,hW2⟩:=hW_
 have hV0:=hU0
 have hV1:=hU1
 obtain ⟨B0,d0,rfl,-,-⟩:=hU0
 obtain ⟨B1,d1,rfl,-,-⟩:=hU1
 obtain ⟨cs,hcs⟩:∃cs,cs=cM++([.slice B0 l0.length d0]++([.slice B1 l1.length d1]++(cW2++[.int .i64 n]))):=⟨_,rfl⟩
 simp only [List.append_assoc] at KS0 ⊢
 rw [←hcs] at KS0 ⊢
 have Ecs:=zz hcs
 have KS:=zz KS0
 have KM:=zz hM;have KW0:=zz (show (Own.srow 9 Kd.string).K w l0 [.slice B0 l0.length d0] from hV0);have KW1:=zz (show (Own.srow 110 k110).K w l1 [.slice B1 l1.length d1] from hV1);have KW2:=zz hW2
 have LM:=zz (show cM.length=4 from Kd.K_len _ hM);have LW2:=zz (show cW2.length=4 from Kd.K_len _ hW2);have Lcs:=zz (show cs.length=11 from Kd.K_len _ KS0)
 have FI:=zz fi;clear fi
 have F1:=zz f1;clear f1
 have FL:=zz fl;clear fl
 have FN:=zz fn;clear fn
 clear KS0 hM hV0 hV1 hW2 hcs
 have O:=zz (Nat.le_refl w.heap.size)
 have E:=zz (Env.start w)
 go_enter Tryz.func7,Tryz.ntmps7
 go_wp2_with (first|((with_reducible refine zn (N:=11) rfl ?_);replace O:=zz (And.intro E.out.le O.out);replace E:=zz (E.out.alloc cs 46 (g:=w.heap.size) rfl);replace E:=zz (E.out.alloc [.slice none 0 0,.slice none 0 0] 37 (g:=(w.heap.size+1)) zq16);replace E:=zz (E.out.alloc Z40 40 (g:=(w.heap.size+1+1)) zq16);refine zA rfl 46 _ rfl w.heap.size 0 [] cs [] _ rfl (E.out.box 2 rfl) zq6 (rfl) Tryz.underlying46 rfl zq32 ?_))
 ((with_reducible refine (idleS_d y l0 l1 l2 l3 l4 l5 n false _ (E.out.K KS.out) FI.out).mono ?_);rintro e w1_ ⟨rfl,hb⟩)
 replace E:=zz (E.out.call hb);clear hb
 go_wp2_with (first|((with_reducible refine zn (N:=21) rfl ?_);refine zA rfl 46 _ rfl w.heap.size 0 [] cs [] _ rfl (E.out.box 2 rfl) zq6 (rfl) Tryz.underlying46 rfl zq32 ?_))
 ((with_reducible refine (specNM_c k (y,(l0,l1,l2,l3,l4,l5),n) m false _ (E.out.K KS.out) FN.out).mono ?_);rintro e w2_ ⟨d3_,rfl,Md3_,hb⟩)
 have q:=E.out.made4 O.out 4 rfl Md3_ hb;clear O E Md3_ hb;obtain ⟨n4_,m5_,Ld3_,Od3_,O,E⟩:=q
 go_upto_region 5 with (first|((with_reducible refine zE (t:=40) (p:=5) rfl ?_);replace O:=zz (And.intro E.out.le O.out);replace E:=zz (E.out.alloc Z40 40 (g:=w2_.heap.size) rfl);refine zK rfl 40 _ _ rfl rfl w2_.heap.size 0 d3_ [] Z40 [] rfl rfl (E.out.box 0 rfl) zq6 (rfl) zq44 zq31 Od3_.out ?_;intro W6_ hp hn;replace E:=E.out.put2 0 hp hn zq8;clear hp hn))
 replace E:=zz E.out.drew
 refine zca commitS_B_ok5_0 (S:=fun w'=>w'.heap[w.heap.size]?=some (.cells (cs:List Value).toArray 46 (0,0))∧True) zq7 (fun _ _ _ _ h=>h) ⟨(E.out.box 4 rfl),trivial⟩ (fun hHeld=> ?_)
 generalize hq:World.drew _=w7_ at hHeld ⊢;replace E:=E.out.to hq;clear hq
 iterate 2 (refine zY (v:= ?_) (a':= ?_) rfl rfl (Or.inl ⟨by rfl,?_⟩) ?_ ?_;rotate_left;(· intro w';go_simp;with_reducible rfl);rotate_left;(· show Act.put _ (some _) _=_;simp only [Act.put,s_A,s_0,s_1,zr];try rfl))
 refine zJ (a':= ?ax8_) rfl rfl zq15 37 _ rfl w.heap.size 4 cM [.slice B0 l0.length d0,.slice B1 l1.length d1] (cW2++[.int .i64 n]) _ rfl (fun w' hs=>hs.1) zq17 (LM.out) Tryz.underlying37 rfl zq7 ?px8_ ?kx8_
 case px8_=>(show Act.put _ (some _) _=_;simp only [Act.put,s_A,s_0,s_1,zr];try rfl)
 (refine zY (v:= ?_) (a':= ?_) rfl rfl (Or.inl ⟨by rfl,?_⟩) ?_ ?_;rotate_left;(· intro w';go_simp;with_reducible rfl);rotate_left;(· show Act.put _ (some _) _=_;simp only [Act.put,s_A,s_0,s_1,zr];try rfl))
 refine zJ (a':= ?ax9_) rfl rfl zq15 40 _ rfl w.heap.size 0 [] cM ([.slice B0 l0.length d0]++([.slice B1 l1.length d1]++(cW2++[.int .i64 n]))) _ rfl (fun w' hs=>hs.1) zq17 (rfl) Tryz.underlying40 rfl zq43 ?px9_ ?kx9_
 case px9_=>(show Act.put _ (some _) _=_;simp only [Act.put,s_A,s_0,s_1,zr];try rfl)
 refine zW rfl (zL rfl Tryz.func36 zq7 rfl #[.agg [.slice B0 l0.length d0,.slice B1 l1.length d1].toArray] zq15 rfl zq10 ?_)
 with_reducible refine (zEb l0 l1 _ (zoa (E.out.K KW0.out) (E.out.K KW1.out)) FL.out).mono ?_
 rintro e w10_ ⟨d11_,rfl,Md11_,hb⟩
 have q:=E.out.made4 O.out 2 rfl Md11_ hb;clear O E Md11_ hb;obtain ⟨n12_,m13_,Ld11_,Od11_,O,E⟩:=q
 refine ⟨_,rfl,⟨(E.out.box 5 rfl),trivial⟩,(fun hHeld=> ?_)⟩
 refine zG (a':= ?_) ?_ ?_;rotate_left;(· show Act.put _ (some 30) _=_;simp only [Act.put,s_A,s_0,s_1,zr];try rfl)
 refine zW rfl (zL rfl Tryz.func34 zq7 rfl #[.agg cM.toArray] zq15 rfl zq10 ?_)
 with_reducible refine (zCb y y _ (E.out.K KM.out) ⟨rfl,F1.out⟩).mono ?_
 rintro e w14_ ⟨d15_,rfl,Md15_,hb⟩
 have q:=E.out.made4 O.out 4 rfl Md15_ hb;clear O E Md15_ hb;obtain ⟨n16_,m17_,Ld15_,Od15_,O,E⟩:=q
 refine ⟨_,rfl,⟨(E.out.box 6 rfl),trivial⟩,(fun hHeld=> ?_)⟩
 refine zG (a':= ?_) ?_ ?_;rotate_left;(· show Act.put _ (some 33) _=_;simp only [Act.put,s_A,s_0,s_1,zr];try rfl)
 refine zW rfl (zC rfl zq15 37 _ _ rfl (w.heap.size+1) 0 d11_ [] [.slice none 0 0,.slice none 0 0] [] rfl rfl (E.out.box 5 rfl) zq6 (rfl) (by rw [Ld11_.out];rfl) (by rw [Ld11_.out];kernel_rfl) Od11_.out (fun W18_ hp hn=> ?_))
 replace E:=E.out.put2 5 hp hn zq8;clear hp hn
 refine ⟨⟨(E.out.box 6 rfl),trivial⟩,(fun hHeld=> ?_)⟩
 refine zW rfl (zC rfl zq15 40 _ _ rfl (w.heap.size+1+1) 0 d15_ [] Z40 [] rfl rfl (E.out.box 4 rfl) zq6 (rfl) (by rw [Ld15_.out];rfl) (by rw [Ld15_.out];kernel_rfl) Od15_.out (fun W19_ hp hn=> ?_))
 replace E:=E.out.put2 4 hp hn zq8;clear hp hn
 refine ⟨⟨(E.out.box 6 rfl),trivial⟩,(fun hHeld=> ?_)⟩
 (refine zY (v:= ?_) (a':= ?_) rfl rfl (Or.inl ⟨by rfl,?_⟩) ?_ ?_;rotate_left;(· intro w';go_simp;with_reducible rfl);rotate_left;(· show Act.put _ (some _) _=_;simp only [Act.put,s_A,s_0,s_1,zr];try rfl))
 refine zX ?_
 clear hHeld
 go_wp2_with fail
 have BX:=zz (show _=some (Obj.cells (d11_:List Value).toArray 37 (0,0)) from by first|exact (E.out.box 5 rfl)|simpa only [aA,aN,aL] using (E.out.box 5 rfl))
 have BX2:=zz (show _=some (Obj.cells (d15_:List Value).toArray 40 (0,0)) from by first|exact (E.out.box 4 rfl)|simpa only [aA,aN,aL] using (E.out.box 4 rfl))
 refine bodyPost_ret (zM (rs:=[.cell 2 37,.cell 3 40,.tmp 4]) rfl zq16 (.cell (w.heap.size+1) 37 _ _ _ rfl BX.out Tryz.underlying37 rfl zq36 (.cell (w.heap.size+1+1) 40 _ _ _ rfl BX2.out Tryz.underlying40 rfl (by rw [List.size_toArray,show (d15_:List Value).length=4 from Ld15_.out];kernel_rfl) (.tmp .nil)))) rfl ?_
 exact ⟨_,_,rfl,⟨n12_,m13_,n16_,m17_,zq22,(E.out.made 1 rfl),(E.out.made 0 rfl)⟩,E.out.below⟩
def commitS_C_T9:Bool×List (List Nat×List Nat):=(true,[([],[]),([0],[0]),([1],[1]),([2],[2]),([],[]),([4],[4]),([5,3],[5]),([3,6,0,1,2,3],[3]),([6,7,0,1,2,3,4,5,6,7],[6]),([8,0,1,2,3,4,5,6,7,8],[])])
def commitS_C_B9:List Nat:=[0,1,3,7,0,16,63,127,255,511]
theorem zVa:regT (zQa Tryz.f7 9) commitS_C_T9 commitS_C_B9 [] (.p 0 (.p 1 (.t 2 (.p 4 (.t 5 (.e 3 (.e 6 (.e 7 (.e 8 (.p 9 .d))))))))))=true:=by kernel_rfl
def commitS_C_T7:Bool×List (List Nat×List Nat):=(true,[([],[]),([0],[0]),([1],[1]),([2],[2]),([],[]),([4],[4]),([5,3],[5]),([],[]),([3,6,7,6],[3,6,7]),([8],[8]),([9],[9]),([9],[9]),([],[]),([12,10,8,0,1,2,3,4,5,6,7,8,9,10,12],[10,12]),([11,13,0,1,2,3,4,5,6,7,8,9,10,11,12,13],[11])])
def commitS_C_B7:List Nat:=[0,1,3,7,0,16,63,0,255,511,1023,1023,0,6143,16383]
theorem commitS_C_ok7_1:regT (zQa Tryz.f7 7) commitS_C_T7 commitS_C_B7 [13] (.p 0 (.p 1 (.t 2 (.p 4 (.t 5 (.p 7 (.two 3 12 (.two 6 12 (.two 8 12 (.p 9 (.p 10 (.p 11 (.e 12 (.l 13 (.p 14 .d)))))) (.e 8 (.p 9 (.p 10 (.p 11 (.l 13 (.p 14 .d))))))) (.e 6 (.e 8 (.p 9 (.p 10 (.p 11 (.l 13 (.p 14 .d)))))))) (.e 3 (.e 6 (.e 8 (.p 9 (.p 10 (.p 11 (.l 13 (.p 14 .d)))))))))))))))=true:=by kernel_rfl
theorem commitS_C (k:Nat) (y:S40) (l0:List ByteArray) (l1:List S110) (l2:Int) (l3 l4 l5:List Int) (n:Int) (m:S40) (t:ByteArray) (ok:Bool) (e0:List ByteArray) (e1:List S110) {cs:List Value} (w:World) (h:kTxn.K w (y,(l0,l1,l2,l3,l4,l5),n) cs) (fi:zyb (y,(l0,l1,l2,l3,l4,l5),n)=false) (f1:SmallM y) (fl:l0.length≤2000000∧l1.length≤2000000) (fn:SpecNM k (y,(l0,l1,l2,l3,l4,l5),n) m true) (ft:∃(vt:Int→ByteArray) (sl:ByteArray→ByteArray),TxF k vt sl∧MTxt vt sl m t ok) (fs:spec_SyncDisk.f k l0 l1=some (e0,e1)) (fx:0≤m.f0∧m.f0≤100000) (fe:e0.length≤2000000∧e1.length≤2000000) (fd:spec_DiskOk.f k e0 e1=some false):
    Calls Tryz.prog 7 #[.agg cs.toArray] w fun e w'=>∃ds es:List Value,e= .returned (.tuple #[.agg ds.toArray,.agg es.toArray,.bool false])∧Two w w' kDisk (l0,l1) ds k40 y es∧Below w.heap.size w w':=by
  have KS0:=h
  obtain ⟨cM,_,rfl,hM,cW_,cI,rfl,hW_,hI⟩:=h
  obtain rfl:cI=[.int .i64 n]:=hI
  obtain ⟨u0,_,rfl,hU0,u1,cW2,rfl,hU1,hW2⟩:=hW_
  have hV0:=hU0
  have hV1:=hU1
  obtain ⟨B0,d0,rfl,-,-⟩:=hU0
  obtain ⟨B1,d1,rfl,-,-⟩:=hU1
  obtain ⟨cs,hcs⟩:∃cs,cs=cM++([.slice B0 l0.length d0]++([.slice B1 l1.length d1]++(cW2++[.int .i64 n]))):=⟨_,rfl⟩
  simp only [List.append_assoc] at KS0 ⊢
  rw [←hcs] at KS0 ⊢
  have Ecs:=zz hcs
  have KS:=zz KS0
  have KM:=zz hM;have KW0:=zz (show (Own.srow 9 Kd.string).K w l0 [.slice B0 l0.length d0] from hV0);have KW1:=zz (show (Own.srow 110 k110).K w l1 [.slice B1 l1.length d1] from hV1);have KW2:=zz hW2
  have LM:=zz (show cM.length=4 from Kd.K_len _ hM);have LW2:=zz (show cW2.length=4 from Kd.K_len _ hW2);have Lcs:=zz (show cs.length=11 from Kd.K_len _ KS0)
  have FI:=zz fi;clear fi
  have F1:=zz f1;clear f1
  have FL:=zz fl;clear fl
  have FN:=zz fn;clear fn
  have FT:=zz ft;clear ft
  have FS:=zz fs;clear fs
  have FX:=zz fx;clear fx
  have FE:=zz fe;clear fe
  have FD:=zz fd;clear fd
  clear KS0 hM hV0 hV1 hW2 hcs
  have O:=zz (Nat.le_refl w.heap.size)
  have E:=zz (Env.start w)
  go_enter Tryz.func7,Tryz.ntmps7
  go_wp2_with (first|((with_reducible refine zn (N:=11) rfl ?_);replace O:=zz (And.intro E.out.le O.out);replace E:=zz (E.out.alloc cs 46 (g:=w.heap.size) rfl);replace E:=zz (E.out.alloc [.slice none 0 0,.slice none 0 0] 37 (g:=(w.heap.size+1)) zq16);replace E:=zz (E.out.alloc Z40 40 (g:=(w.heap.size+1+1)) zq16);refine zA rfl 46 _ rfl w.heap.size 0 [] cs [] _ rfl (E.out.box 2 rfl) zq6 (rfl) Tryz.underlying46 rfl zq32 ?_))
  ((with_reducible refine (idleS_d y l0 l1 l2 l3 l4 l5 n false _ (E.out.K KS.out) FI.out).mono ?_);rintro e w1_ ⟨rfl,hb⟩)
  replace E:=zz (E.out.call hb);clear hb
  go_wp2_with (first|((with_reducible refine zn (N:=21) rfl ?_);refine zA rfl 46 _ rfl w.heap.size 0 [] cs [] _ rfl (E.out.box 2 rfl) zq6 (rfl) Tryz.underlying46 rfl zq32 ?_))
  ((with_reducible refine (specNM_c k (y,(l0,l1,l2,l3,l4,l5),n) m true _ (E.out.K KS.out) FN.out).mono ?_);rintro e w2_ ⟨d3_,rfl,Md3_,hb⟩)
  have Ld3_:=zz (show d3_.length=4 from Kd.K_len _ (Kd.K_of_M _ Md3_));have Od3_:=zz (zub (Kd.K_of_M _ Md3_))
  obtain ⟨n4_,m5_,hT,hE⟩:=E.out.made_ Md3_ hb;replace O:=zz (And.intro hT O.out);replace E:=zz hE;clear hT hE Md3_ hb
  obtain ⟨AG,cG,hg⟩:=meta_lit (E.out.made 0 rfl);have Ed3_:=zz hg;clear hg
  go_wp2_with (first|((with_reducible refine zE (t:=40) (p:=5) rfl ?_);replace O:=zz (And.intro E.out.le O.out);replace E:=zz (E.out.alloc Z40 40 (g:=w2_.heap.size) rfl);refine zK rfl 40 _ _ rfl rfl w2_.heap.size 0 d3_ [] Z40 [] rfl rfl (E.out.box 0 rfl) zq6 (rfl) zq44 zq31 Od3_.out ?_;intro W6_ hp hn;replace E:=E.out.put2 0 hp hn zq8;clear hp hn)|((with_reducible refine zn (N:=35) rfl ?_);refine zA rfl 40 _ rfl w2_.heap.size 0 [] d3_ [] _ rfl (E.out.box 0 rfl) zq6 (rfl) Tryz.underlying40 rfl zq31 ?_))
  ((with_reducible refine (metaTextS_c k m t ok _ (E.out.mk_ 1 rfl) FT.out).mono ?_);rintro e w7_ ⟨rfl,hb⟩)
  replace E:=zz (E.out.call hb);clear hb
  go_upto_region 7 with (fail)
  replace E:=zz E.out.drew
  refine zca commitS_C_ok7_1 (S:=fun w'=>w'.heap[w.heap.size]?=some (.cells (cs:List Value).toArray 46 (0,0))∧w'.heap[w2_.heap.size]?=some (.cells (([]++(d3_++[])):List Value).toArray 40 (0,0))∧True) zq7 (fun _ _ _ _ h=>h) ⟨(E.out.box 4 rfl),(E.out.box 0 rfl),trivial⟩ (fun hHeld=> ?_)
  generalize hq:World.drew _=w8_ at hHeld ⊢;replace E:=E.out.to hq;clear hq
  iterate 2 (refine zY (v:= ?_) (a':= ?_) rfl rfl (Or.inl ⟨by rfl,?_⟩) ?_ ?_;rotate_left;(· intro w';go_simp;with_reducible rfl);rotate_left;(· show Act.put _ (some _) _=_;simp only [Act.put,s_A,s_0,s_1,zr];try rfl))
  refine zJ (a':= ?ax9_) rfl rfl zq15 37 _ rfl w.heap.size 4 cM [.slice B0 l0.length d0,.slice B1 l1.length d1] (cW2++[.int .i64 n]) _ rfl (fun w' hs=>hs.1) zq17 (LM.out) Tryz.underlying37 rfl zq7 ?px9_ ?kx9_
  case px9_=>(show Act.put _ (some _) _=_;simp only [Act.put,s_A,s_0,s_1,zr];try rfl)
  (refine zY (v:= ?_) (a':= ?_) rfl rfl (Or.inl ⟨by rfl,?_⟩) ?_ ?_;rotate_left;(· intro w';go_simp;with_reducible rfl);rotate_left;(· show Act.put _ (some _) _=_;simp only [Act.put,s_A,s_0,s_1,zr];try rfl))
  refine zDa (a':= ?ax10_) rfl rfl zq15 3 _ rfl w2_.heap.size 0 [] (.int .i64 m.f0) ([.int .i64 m.f1]++([.int .i64 m.f2]++[.slice AG m.f3.length cG])) _ rfl (fun w' hs=>hs.2.1) (by simp only [aA,aN,aL];rw [Ed3_.out];first|done|rfl|(simp only [aA,aN,aL];first|done|rfl)) (rfl) Tryz.underlying3 rfl ?px10_ ?kx10_
  case px10_=>(show Act.put _ (some _) _=_;simp only [Act.put,s_A,s_0,s_1,zr];try rfl)
  (refine zY (v:= ?_) (a':= ?_) rfl rfl (Or.inl ⟨by rfl,?_⟩) ?_ ?_;rotate_left;(· intro w';go_simp;with_reducible rfl);rotate_left;(· show Act.put _ (some _) _=_;simp only [Act.put,s_A,s_0,s_1,zr];try rfl))
  refine zHb rfl rfl (zL rfl Tryz.func33 zq7 rfl #[.agg [.slice B0 l0.length d0,.slice B1 l1.length d1].toArray] zq15 rfl zq10 ?_) (zGa rfl zq15 37 rfl [.slice none 0 0,.slice none 0 0] zq7 ?_)
  ·
    with_reducible refine (zIa k l0 l1 e0 e1 _ (zoa (E.out.K KW0.out) (E.out.K KW1.out)) FS.out).mono ?_
    rintro e w11_ ⟨d12_,rfl,Md12_,hb⟩
    have q:=E.out.made4 O.out 2 rfl Md12_ hb;clear O E Md12_ hb;obtain ⟨n13_,m14_,Ld12_,Od12_,O,E⟩:=q
    refine ⟨_,rfl,⟨(E.out.box 5 rfl),(E.out.box 1 rfl),trivial⟩,(fun hHeld=> ?_)⟩
    refine zG (a':= ?_) ?_ ?_;rotate_left;(· show Act.put _ (some 43) _=_;simp only [Act.put,s_A,s_0,s_1,zr];try rfl)
    refine zHb rfl rfl (zL rfl Tryz.func39 zq7 rfl #[.int .i64 m.f0] zq15 rfl zq10 ?_) (zGa rfl zq15 37 rfl [.slice none 0 0,.slice none 0 0] zq7 ?_)
    ·
      with_reducible refine (pageS_c m.f0 _ FX.out).mono ?_
      rintro e w15_ ⟨rfl,hb⟩
      replace E:=zz (E.out.call hb);clear hb
      refine ⟨_,rfl,⟨(E.out.box 5 rfl),(E.out.box 1 rfl),trivial⟩,(fun hHeld=> ?_)⟩
      refine zG (a':= ?_) ?_ ?_;rotate_left;(· show Act.put _ (some 46) _=_;simp only [Act.put,s_A,s_0,s_1,zr];try rfl)
      refine zHb rfl rfl (zL rfl Tryz.func38 zq7 rfl #[.agg d12_.toArray,.int .i64 (m.f0%2),.string t] zq15 rfl zq10 ?_) (zGa rfl zq15 37 rfl [.slice none 0 0,.slice none 0 0] zq7 ?_)
      ·
        with_reducible refine (writeS_no k e0 e1 (m.f0%2) t _ (E.out.mk_ 0 rfl) FE.out FD.out).mono ?_
        rintro e w16_ ⟨d17_,rfl,Md17_,hb⟩
        have q:=E.out.made4 O.out 2 rfl Md17_ hb;clear O E Md17_ hb;obtain ⟨n18_,m19_,Ld17_,Od17_,O,E⟩:=q
        refine ⟨_,rfl,⟨(E.out.box 6 rfl),(E.out.box 2 rfl),trivial⟩,(fun hHeld=> ?_)⟩
        refine zG (a':= ?_) ?_ ?_;rotate_left;(· show Act.put _ (some 48) _=_;simp only [Act.put,s_A,s_0,s_1,zr];try rfl)
        iterate 3 (refine zY (v:= ?_) (a':= ?_) rfl rfl (Or.inl ⟨by rfl,?_⟩) ?_ ?_;rotate_left;(· intro w';go_simp;with_reducible rfl);rotate_left;(· show Act.put _ (some _) _=_;simp only [Act.put,s_A,s_0,s_1,zr];try rfl))
        refine zW rfl (zGa rfl zq15 37 rfl [.slice none 0 0,.slice none 0 0] zq7 ?_)
        replace O:=zz (And.intro E.out.le O.out)
        replace E:=zz (E.out.alloc [.slice none 0 0,.slice none 0 0] 37 (g:=w16_.heap.size) rfl)
        refine ⟨⟨(E.out.box 7 rfl),(E.out.box 3 rfl),trivial⟩,(fun hHeld=> ?_)⟩
        refine zG (a':= ?_) ?_ ?_;rotate_left;(· show Act.put _ (some 9) _=_;simp only [Act.put,s_A,s_0,s_1,zr];try rfl)
        generalize (w16_.alloc (.cells [.slice none 0 0,.slice none 0 0].toArray 37))=w20_ at E hHeld ⊢
        refine tre_l rfl (zC rfl zq15 37 _ _ rfl w16_.heap.size 0 d17_ [] [.slice none 0 0,.slice none 0 0] [] rfl rfl (E.out.box 0 rfl) zq6 (rfl) (by rw [Ld17_.out];rfl) zq49 Od17_.out (fun W21_ hp hn=> ?_))
        replace E:=E.out.put2 0 hp hn zq8;clear hp hn
        (refine zY (v:= ?_) (a':= ?_) rfl rfl (Or.inl ⟨by rfl,?_⟩) ?_ ?_;rotate_left;(· intro w';go_simp;with_reducible rfl);rotate_left;(· show Act.put _ (some _) _=_;simp only [Act.put,s_A,s_0,s_1,zr];try rfl))
        refine zX ?_
        clear hHeld
        go_upto_region 9 with (fail)
        replace E:=zz E.out.drew
        refine zca zVa (S:=fun w'=>w'.heap[w.heap.size]?=some (.cells (cs:List Value).toArray 46 (0,0))∧True) zq7 (fun _ _ _ _ h=>h) ⟨(E.out.box 7 rfl),trivial⟩ (fun hHeld=> ?_)
        generalize hq:World.drew _=w22_ at hHeld ⊢;replace E:=E.out.to hq;clear hq
        iterate 2 (refine zY (v:= ?_) (a':= ?_) rfl rfl (Or.inl ⟨by rfl,?_⟩) ?_ ?_;rotate_left;(· intro w';go_simp;with_reducible rfl);rotate_left;(· show Act.put _ (some _) _=_;simp only [Act.put,s_A,s_0,s_1,zr];try rfl))
        refine zJ (a':= ?ax23_) rfl rfl zq15 37 _ rfl w.heap.size 4 cM [.slice B0 l0.length d0,.slice B1 l1.length d1] (cW2++[.int .i64 n]) _ rfl (fun w' hs=>hs.1) zq17 (LM.out) Tryz.underlying37 rfl zq7 ?px23_ ?kx23_
        case px23_=>(show Act.put _ (some _) _=_;simp only [Act.put,s_A,s_0,s_1,zr];try rfl)
        (refine zY (v:= ?_) (a':= ?_) rfl rfl (Or.inl ⟨by rfl,?_⟩) ?_ ?_;rotate_left;(· intro w';go_simp;with_reducible rfl);rotate_left;(· show Act.put _ (some _) _=_;simp only [Act.put,s_A,s_0,s_1,zr];try rfl))
        refine zJ (a':= ?ax24_) rfl rfl zq15 40 _ rfl w.heap.size 0 [] cM ([.slice B0 l0.length d0]++([.slice B1 l1.length d1]++(cW2++[.int .i64 n]))) _ rfl (fun w' hs=>hs.1) zq17 (rfl) Tryz.underlying40 rfl zq43 ?px24_ ?kx24_
        case px24_=>(show Act.put _ (some _) _=_;simp only [Act.put,s_A,s_0,s_1,zr];try rfl)
        refine zW rfl (zL rfl Tryz.func36 zq7 rfl #[.agg [.slice B0 l0.length d0,.slice B1 l1.length d1].toArray] zq15 rfl zq10 ?_)
        with_reducible refine (zEb l0 l1 _ (zoa (E.out.K KW0.out) (E.out.K KW1.out)) FL.out).mono ?_
        rintro e w25_ ⟨d26_,rfl,Md26_,hb⟩
        have q:=E.out.made4 O.out 2 rfl Md26_ hb;clear O E Md26_ hb;obtain ⟨n27_,m28_,Ld26_,Od26_,O,E⟩:=q
        refine ⟨_,rfl,⟨(E.out.box 8 rfl),trivial⟩,(fun hHeld=> ?_)⟩
        refine zG (a':= ?_) ?_ ?_;rotate_left;(· show Act.put _ (some 56) _=_;simp only [Act.put,s_A,s_0,s_1,zr];try rfl)
        refine zW rfl (zL rfl Tryz.func34 zq7 rfl #[.agg cM.toArray] zq15 rfl zq10 ?_)
        with_reducible refine (zCb y y _ (E.out.K KM.out) ⟨rfl,F1.out⟩).mono ?_
        rintro e w29_ ⟨d30_,rfl,Md30_,hb⟩
        have q:=E.out.made4 O.out 4 rfl Md30_ hb;clear O E Md30_ hb;obtain ⟨n31_,m32_,Ld30_,Od30_,O,E⟩:=q
        refine ⟨_,rfl,⟨(E.out.box 9 rfl),trivial⟩,(fun hHeld=> ?_)⟩
        refine zG (a':= ?_) ?_ ?_;rotate_left;(· show Act.put _ (some 59) _=_;simp only [Act.put,s_A,s_0,s_1,zr];try rfl)
        refine zW rfl (zC rfl zq15 37 _ _ rfl (w.heap.size+1) 0 d26_ [] [.slice none 0 0,.slice none 0 0] [] rfl rfl (E.out.box 8 rfl) zq6 (rfl) (by rw [Ld26_.out];rfl) (by rw [Ld26_.out];kernel_rfl) Od26_.out (fun W33_ hp hn=> ?_))
        replace E:=E.out.put2 8 hp hn zq8;clear hp hn
        refine ⟨⟨(E.out.box 9 rfl),trivial⟩,(fun hHeld=> ?_)⟩
        refine zW rfl (zC rfl zq15 40 _ _ rfl (w.heap.size+1+1) 0 d30_ [] Z40 [] rfl rfl (E.out.box 7 rfl) zq6 (rfl) (by rw [Ld30_.out];rfl) (by rw [Ld30_.out];kernel_rfl) Od30_.out (fun W34_ hp hn=> ?_))
        replace E:=E.out.put2 7 hp hn zq8;clear hp hn
        refine ⟨⟨(E.out.box 9 rfl),trivial⟩,(fun hHeld=> ?_)⟩
        (refine zY (v:= ?_) (a':= ?_) rfl rfl (Or.inl ⟨by rfl,?_⟩) ?_ ?_;rotate_left;(· intro w';go_simp;with_reducible rfl);rotate_left;(· show Act.put _ (some _) _=_;simp only [Act.put,s_A,s_0,s_1,zr];try rfl))
        refine zX ?_
        clear hHeld
        go_wp2_with fail
        have BX:=zz (show _=some (Obj.cells (d26_:List Value).toArray 37 (0,0)) from by first|exact (E.out.box 8 rfl)|simpa only [aA,aN,aL] using (E.out.box 8 rfl))
        have BX2:=zz (show _=some (Obj.cells (d30_:List Value).toArray 40 (0,0)) from by first|exact (E.out.box 7 rfl)|simpa only [aA,aN,aL] using (E.out.box 7 rfl))
        refine bodyPost_ret (zM (rs:=[.cell 2 37,.cell 3 40,.tmp 4]) rfl zq16 (.cell (w.heap.size+1) 37 _ _ _ rfl BX.out Tryz.underlying37 rfl (by rw [List.size_toArray,show (d26_:List Value).length=2 from Ld26_.out];kernel_rfl) (.cell (w.heap.size+1+1) 40 _ _ _ rfl BX2.out Tryz.underlying40 rfl (by rw [List.size_toArray,show (d30_:List Value).length=4 from Ld30_.out];kernel_rfl) (.tmp .nil)))) rfl ?_
        exact ⟨_,_,rfl,⟨n27_,m28_,n31_,m32_,zq22,(E.out.made 1 rfl),(E.out.made 0 rfl)⟩,E.out.below⟩
      ·
        replace O:=zz (And.intro E.out.le O.out)
        replace E:=zz (E.out.alloc [.slice none 0 0,.slice none 0 0] 37 (g:=w15_.heap.size) rfl)
        refine ⟨⟨(E.out.box 6 rfl),(E.out.box 2 rfl),trivial⟩,(fun hHeld=> ?_)⟩
        refine zG (a':= ?_) ?_ ?_;rotate_left;(· show Act.put _ (some 9) _=_;simp only [Act.put,s_A,s_0,s_1,zr];try rfl)
        generalize (w15_.alloc (.cells [.slice none 0 0,.slice none 0 0].toArray 37))=w35_ at E hHeld ⊢
        refine zW rfl (zL rfl Tryz.func38 zq7 rfl #[.agg d12_.toArray,.int .i64 (m.f0%2),.string t] zq15 rfl zq10 ?_)
        with_reducible refine (writeS_no k e0 e1 (m.f0%2) t _ (E.out.mk_ 1 rfl) FE.out FD.out).mono ?_
        rintro e w36_ ⟨d37_,rfl,Md37_,hb⟩
        have q:=E.out.made4 O.out 2 rfl Md37_ hb;clear O E Md37_ hb;obtain ⟨n38_,m39_,Ld37_,Od37_,O,E⟩:=q
        refine ⟨_,rfl,⟨(E.out.box 7 rfl),(E.out.box 3 rfl),trivial⟩,(fun hHeld=> ?_)⟩
        refine zG (a':= ?_) ?_ ?_;rotate_left;(· show Act.put _ (some 48) _=_;simp only [Act.put,s_A,s_0,s_1,zr];try rfl)
        iterate 3 (refine zY (v:= ?_) (a':= ?_) rfl rfl (Or.inl ⟨by rfl,?_⟩) ?_ ?_;rotate_left;(· intro w';go_simp;with_reducible rfl);rotate_left;(· show Act.put _ (some _) _=_;simp only [Act.put,s_A,s_0,s_1,zr];try rfl))
        refine tre_l rfl (zC rfl zq15 37 _ _ rfl w15_.heap.size 0 d37_ [] [.slice none 0 0,.slice none 0 0] [] rfl rfl (E.out.box 1 rfl) zq6 (rfl) (by rw [Ld37_.out];rfl) (by rw [Ld37_.out];kernel_rfl) Od37_.out (fun W40_ hp hn=> ?_))
        replace E:=E.out.put2 1 hp hn zq8;clear hp hn
        (refine zY (v:= ?_) (a':= ?_) rfl rfl (Or.inl ⟨by rfl,?_⟩) ?_ ?_;rotate_left;(· intro w';go_simp;with_reducible rfl);rotate_left;(· show Act.put _ (some _) _=_;simp only [Act.put,s_A,s_0,s_1,zr];try rfl))
        refine zX ?_
        clear hHeld
        go_upto_region 9 with (fail)
        replace E:=zz E.out.drew
        refine zca zVa (S:=fun w'=>w'.heap[w.heap.size]?=some (.cells (cs:List Value).toArray 46 (0,0))∧True) zq7 (fun _ _ _ _ h=>h) ⟨(E.out.box 7 rfl),trivial⟩ (fun hHeld=> ?_)
        generalize hq:World.drew _=w41_ at hHeld ⊢;replace E:=E.out.to hq;clear hq
        iterate 2 (refine zY (v:= ?_) (a':= ?_) rfl rfl (Or.inl ⟨by rfl,?_⟩) ?_ ?_;rotate_left;(· intro w';go_simp;with_reducible rfl);rotate_left;(· show Act.put _ (some _) _=_;simp only [Act.put,s_A,s_0,s_1,zr];try rfl))
        refine zJ (a':= ?ax42_) rfl rfl zq15 37 _ rfl w.heap.size 4 cM [.slice B0 l0.length d0,.slice B1 l1.length d1] (cW2++[.int .i64 n]) _ rfl (fun w' hs=>hs.1) zq17 (LM.out) Tryz.underlying37 rfl zq7 ?px42_ ?kx42_
        case px42_=>(show Act.put _ (some _) _=_;simp only [Act.put,s_A,s_0,s_1,zr];try rfl)
        (refine zY (v:= ?_) (a':= ?_) rfl rfl (Or.inl ⟨by rfl,?_⟩) ?_ ?_;rotate_left;(· intro w';go_simp;with_reducible rfl);rotate_left;(· show Act.put _ (some _) _=_;simp only [Act.put,s_A,s_0,s_1,zr];try rfl))
        refine zJ (a':= ?ax43_) rfl rfl zq15 40 _ rfl w.heap.size 0 [] cM ([.slice B0 l0.length d0]++([.slice B1 l1.length d1]++(cW2++[.int .i64 n]))) _ rfl (fun w' hs=>hs.1) zq17 (rfl) Tryz.underlying40 rfl zq43 ?px43_ ?kx43_
        case px43_=>(show Act.put _ (some _) _=_;simp only [Act.put,s_A,s_0,s_1,zr];try rfl)
        refine zW rfl (zL rfl Tryz.func36 zq7 rfl #[.agg [.slice B0 l0.length d0,.slice B1 l1.length d1].toArray] zq15 rfl zq10 ?_)
        with_reducible refine (zEb l0 l1 _ (zoa (E.out.K KW0.out) (E.out.K KW1.out)) FL.out).mono ?_
        rintro e w44_ ⟨d45_,rfl,Md45_,hb⟩
        have q:=E.out.made4 O.out 2 rfl Md45_ hb;clear O E Md45_ hb;obtain ⟨n46_,m47_,Ld45_,Od45_,O,E⟩:=q
        refine ⟨_,rfl,⟨(E.out.box 8 rfl),trivial⟩,(fun hHeld=> ?_)⟩
        refine zG (a':= ?_) ?_ ?_;rotate_left;(· show Act.put _ (some 56) _=_;simp only [Act.put,s_A,s_0,s_1,zr];try rfl)
        refine zW rfl (zL rfl Tryz.func34 zq7 rfl #[.agg cM.toArray] zq15 rfl zq10 ?_)
        with_reducible refine (zCb y y _ (E.out.K KM.out) ⟨rfl,F1.out⟩).mono ?_
        rintro e w48_ ⟨d49_,rfl,Md49_,hb⟩
        have q:=E.out.made4 O.out 4 rfl Md49_ hb;clear O E Md49_ hb;obtain ⟨n50_,m51_,Ld49_,Od49_,O,E⟩:=q
        refine ⟨_,rfl,⟨(E.out.box 9 rfl),trivial⟩,(fun hHeld=> ?_)⟩
        refine zG (a':= ?_) ?_ ?_;rotate_left;(· show Act.put _ (some 59) _=_;simp only [Act.put,s_A,s_0,s_1,zr];try rfl)
        refine zW rfl (zC rfl zq15 37 _ _ rfl (w.heap.size+1) 0 d45_ [] [.slice none 0 0,.slice none 0 0] [] rfl rfl (E.out.box 8 rfl) zq6 (rfl) (by rw [Ld45_.out];rfl) (by rw [Ld45_.out];kernel_rfl) Od45_.out (fun W52_ hp hn=> ?_))
        replace E:=E.out.put2 8 hp hn zq8;clear hp hn
        refine ⟨⟨(E.out.box 9 rfl),trivial⟩,(fun hHeld=> ?_)⟩
        refine zW rfl (zC rfl zq15 40 _ _ rfl (w.heap.size+1+1) 0 d49_ [] Z40 [] rfl rfl (E.out.box 7 rfl) zq6 (rfl) (by rw [Ld49_.out];rfl) (by rw [Ld49_.out];kernel_rfl) Od49_.out (fun W53_ hp hn=> ?_))
        replace E:=E.out.put2 7 hp hn zq8;clear hp hn
        refine ⟨⟨(E.out.box 9 rfl),trivial⟩,(fun hHeld=> ?_)⟩
        (refine zY (v:= ?_) (a':= ?_) rfl rfl (Or.inl ⟨by rfl,?_⟩) ?_ ?_;rotate_left;(· intro w';go_simp;with_reducible rfl);rotate_left;(· show Act.put _ (some _) _=_;simp only [Act.put,s_A,s_0,s_1,zr];try rfl))
        refine zX ?_
        clear hHeld
        go_wp2_with fail
        have BX:=zz (show _=some (Obj.cells (d45_:List Value).toArray 37 (0,0)) from by first|exact (E.out.box 8 rfl)|simpa only [aA,aN,aL] using (E.out.box 8 rfl))
        have BX2:=zz (show _=some (Obj.cells (d49_:List Value).toArray 40 (0,0)) from by first|exact (E.out.box 7 rfl)|simpa only [aA,aN,aL] using (E.out.box 7 rfl))
        refine bodyPost_ret (zM (rs:=[.cell 2 37,.cell 3 40,.tmp 4]) rfl zq16 (.cell (w.heap.size+1) 37 _ _ _ rfl BX.out Tryz.underlying37 rfl (by rw [List.size_toArray,show (d45_:List Value).length=2 from Ld45_.out];kernel_rfl) (.cell (w.heap.size+1+1) 40 _ _ _ rfl BX2.out Tryz.underlying40 rfl (by rw [List.size_toArray,show (d49_:List Value).length=4 from Ld49_.out];kernel_rfl) (.tmp .nil)))) rfl ?_
        exact ⟨_,_,rfl,⟨n46_,m47_,n50_,m51_,zq22,(E.out.made 1 rfl),(E.out.made 0 rfl)⟩,E.out.below⟩
    ·
      replace O:=zz (And.intro E.out.le O.out)
      replace E:=zz (E.out.alloc [.slice none 0 0,.slice none 0 0] 37 (g:=w11_.heap.size) rfl)
      refine ⟨⟨(E.out.box 6 rfl),(E.out.box 2 rfl),trivial⟩,(fun hHeld=> ?_)⟩
      refine zG (a':= ?_) ?_ ?_;rotate_left;(· show Act.put _ (some 9) _=_;simp only [Act.put,s_A,s_0,s_1,zr];try rfl)
      generalize (w11_.alloc (.cells [.slice none 0 0,.slice none 0 0].toArray 37))=w54_ at E hHeld ⊢
      refine zW rfl (zL rfl Tryz.func39 zq7 rfl #[.int .i64 m.f0] zq15 rfl zq10 ?_)
      with_reducible refine (pageS_c m.f0 _ FX.out).mono ?_
      rintro e w55_ ⟨rfl,hb⟩
      replace E:=zz (E.out.call hb);clear hb
      refine ⟨_,rfl,⟨(E.out.box 6 rfl),(E.out.box 2 rfl),trivial⟩,(fun hHeld=> ?_)⟩
      refine zG (a':= ?_) ?_ ?_;rotate_left;(· show Act.put _ (some 46) _=_;simp only [Act.put,s_A,s_0,s_1,zr];try rfl)
      refine zW rfl (zL rfl Tryz.func38 zq7 rfl #[.agg d12_.toArray,.int .i64 (m.f0%2),.string t] zq15 rfl zq10 ?_)
      with_reducible refine (writeS_no k e0 e1 (m.f0%2) t _ (E.out.mk_ 1 rfl) FE.out FD.out).mono ?_
      rintro e w56_ ⟨d57_,rfl,Md57_,hb⟩
      have q:=E.out.made4 O.out 2 rfl Md57_ hb;clear O E Md57_ hb;obtain ⟨n58_,m59_,Ld57_,Od57_,O,E⟩:=q
      refine ⟨_,rfl,⟨(E.out.box 7 rfl),(E.out.box 3 rfl),trivial⟩,(fun hHeld=> ?_)⟩
      refine zG (a':= ?_) ?_ ?_;rotate_left;(· show Act.put _ (some 48) _=_;simp only [Act.put,s_A,s_0,s_1,zr];try rfl)
      iterate 3 (refine zY (v:= ?_) (a':= ?_) rfl rfl (Or.inl ⟨by rfl,?_⟩) ?_ ?_;rotate_left;(· intro w';go_simp;with_reducible rfl);rotate_left;(· show Act.put _ (some _) _=_;simp only [Act.put,s_A,s_0,s_1,zr];try rfl))
      refine tre_l rfl (zC rfl zq15 37 _ _ rfl w11_.heap.size 0 d57_ [] [.slice none 0 0,.slice none 0 0] [] rfl rfl (E.out.box 1 rfl) zq6 (rfl) (by rw [Ld57_.out];rfl) (by rw [Ld57_.out];kernel_rfl) Od57_.out (fun W60_ hp hn=> ?_))
      replace E:=E.out.put2 1 hp hn zq8;clear hp hn
      (refine zY (v:= ?_) (a':= ?_) rfl rfl (Or.inl ⟨by rfl,?_⟩) ?_ ?_;rotate_left;(· intro w';go_simp;with_reducible rfl);rotate_left;(· show Act.put _ (some _) _=_;simp only [Act.put,s_A,s_0,s_1,zr];try rfl))
      refine zX ?_
      clear hHeld
      go_upto_region 9 with (fail)
      replace E:=zz E.out.drew
      refine zca zVa (S:=fun w'=>w'.heap[w.heap.size]?=some (.cells (cs:List Value).toArray 46 (0,0))∧True) zq7 (fun _ _ _ _ h=>h) ⟨(E.out.box 7 rfl),trivial⟩ (fun hHeld=> ?_)
      generalize hq:World.drew _=w61_ at hHeld ⊢;replace E:=E.out.to hq;clear hq
      iterate 2 (refine zY (v:= ?_) (a':= ?_) rfl rfl (Or.inl ⟨by rfl,?_⟩) ?_ ?_;rotate_left;(· intro w';go_simp;with_reducible rfl);rotate_left;(· show Act.put _ (some _) _=_;simp only [Act.put,s_A,s_0,s_1,zr];try rfl))
      refine zJ (a':= ?ax62_) rfl rfl zq15 37 _ rfl w.heap.size 4 cM [.slice B0 l0.length d0,.slice B1 l1.length d1] (cW2++[.int .i64 n]) _ rfl (fun w' hs=>hs.1) zq17 (LM.out) Tryz.underlying37 rfl zq7 ?px62_ ?kx62_
      case px62_=>(show Act.put _ (some _) _=_;simp only [Act.put,s_A,s_0,s_1,zr];try rfl)
      (refine zY (v:= ?_) (a':= ?_) rfl rfl (Or.inl ⟨by rfl,?_⟩) ?_ ?_;rotate_left;(· intro w';go_simp;with_reducible rfl);rotate_left;(· show Act.put _ (some _) _=_;simp only [Act.put,s_A,s_0,s_1,zr];try rfl))
      refine zJ (a':= ?ax63_) rfl rfl zq15 40 _ rfl w.heap.size 0 [] cM ([.slice B0 l0.length d0]++([.slice B1 l1.length d1]++(cW2++[.int .i64 n]))) _ rfl (fun w' hs=>hs.1) zq17 (rfl) Tryz.underlying40 rfl zq43 ?px63_ ?kx63_
      case px63_=>(show Act.put _ (some _) _=_;simp only [Act.put,s_A,s_0,s_1,zr];try rfl)
      refine zW rfl (zL rfl Tryz.func36 zq7 rfl #[.agg [.slice B0 l0.length d0,.slice B1 l1.length d1].toArray] zq15 rfl zq10 ?_)
      with_reducible refine (zEb l0 l1 _ (zoa (E.out.K KW0.out) (E.out.K KW1.out)) FL.out).mono ?_
      rintro e w64_ ⟨d65_,rfl,Md65_,hb⟩
      have q:=E.out.made4 O.out 2 rfl Md65_ hb;clear O E Md65_ hb;obtain ⟨n66_,m67_,Ld65_,Od65_,O,E⟩:=q
      refine ⟨_,rfl,⟨(E.out.box 8 rfl),trivial⟩,(fun hHeld=> ?_)⟩
      refine zG (a':= ?_) ?_ ?_;rotate_left;(· show Act.put _ (some 56) _=_;simp only [Act.put,s_A,s_0,s_1,zr];try rfl)
      refine zW rfl (zL rfl Tryz.func34 zq7 rfl #[.agg cM.toArray] zq15 rfl zq10 ?_)
      with_reducible refine (zCb y y _ (E.out.K KM.out) ⟨rfl,F1.out⟩).mono ?_
      rintro e w68_ ⟨d69_,rfl,Md69_,hb⟩
      have q:=E.out.made4 O.out 4 rfl Md69_ hb;clear O E Md69_ hb;obtain ⟨n70_,m71_,Ld69_,Od69_,O,E⟩:=q
      refine ⟨_,rfl,⟨(E.out.box 9 rfl),trivial⟩,(fun hHeld=> ?_)⟩
      refine zG (a':= ?_) ?_ ?_;rotate_left;(· show Act.put _ (some 59) _=_;simp only [Act.put,s_A,s_0,s_1,zr];try rfl)
      refine zW rfl (zC rfl zq15 37 _ _ rfl (w.heap.size+1) 0 d65_ [] [.slice none 0 0,.slice none 0 0] [] rfl rfl (E.out.box 8 rfl) zq6 (rfl) (by rw [Ld65_.out];rfl) (by rw [Ld65_.out];kernel_rfl) Od65_.out (fun W72_ hp hn=> ?_))
      replace E:=E.out.put2 8 hp hn zq8;clear hp hn
      refine ⟨⟨(E.out.box 9 rfl),trivial⟩,(fun hHeld=> ?_)⟩
      refine zW rfl (zC rfl zq15 40 _ _ rfl (w.heap.size+1+1) 0 d69_ [] Z40 [] rfl rfl (E.out.box 7 rfl) zq6 (rfl) (by rw [Ld69_.out];rfl) (by rw [Ld69_.out];kernel_rfl) Od69_.out (fun W73_ hp hn=> ?_))
      replace E:=E.out.put2 7 hp hn zq8;clear hp hn
      refine ⟨⟨(E.out.box 9 rfl),trivial⟩,(fun hHeld=> ?_)⟩
      (refine zY (v:= ?_) (a':= ?_) rfl rfl (Or.inl ⟨by rfl,?_⟩) ?_ ?_;rotate_left;(· intro w';go_simp;with_reducible rfl);rotate_left;(· show Act.put _ (some _) _=_;simp only [Act.put,s_A,s_0,s_1,zr];try rfl))
      refine zX ?_
      clear hHeld
      go_wp2_with fail
      have BX:=zz (show _=some (Obj.cells (d65_:List Value).toArray 37 (0,0)) from by first|exact (E.out.box 8 rfl)|simpa only [aA,aN,aL] using (E.out.box 8 rfl))
      have BX2:=zz (show _=some (Obj.cells (d69_:List Value).toArray 40 (0,0)) from by first|exact (E.out.box 7 rfl)|simpa only [aA,aN,aL] using (E.out.box 7 rfl))
      refine bodyPost_ret (zM (rs:=[.cell 2 37,.cell 3 40,.tmp 4]) rfl zq16 (.cell (w.heap.size+1) 37 _ _ _ rfl BX.out Tryz.underlying37 rfl (by rw [List.size_toArray,show (d65_:List Value).length=2 from Ld65_.out];kernel_rfl) (.cell (w.heap.size+1+1) 40 _ _ _ rfl BX2.out Tryz.underlying40 rfl (by rw [List.size_toArray,show (d69_:List Value).length=4 from Ld69_.out];kernel_rfl) (.tmp .nil)))) rfl ?_
      exact ⟨_,_,rfl,⟨n66_,m67_,n70_,m71_,zq22,(E.out.made 1 rfl),(E.out.made 0 rfl)⟩,E.out.below⟩
  ·
    replace O:=zz (And.intro E.out.le O.out)
    replace E:=zz (E.out.alloc [.slice none 0 0,.slice none 0 0] 37 (g:=w8_.heap.size) rfl)
    refine ⟨⟨(E.out.box 5 rfl),(E.out.box 1 rfl),trivial⟩,(fun hHeld=> ?_)⟩
    refine zG (a':= ?_) ?_ ?_;rotate_left;(· show Act.put _ (some 9) _=_;simp only [Act.put,s_A,s_0,s_1,zr];try rfl)
    generalize (w8_.alloc (.cells [.slice none 0 0,.slice none 0 0].toArray 37))=w74_ at E hHeld ⊢
    refine zW rfl (zL rfl Tryz.func33 zq7 rfl #[.agg [.slice B0 l0.length d0,.slice B1 l1.length d1].toArray] zq15 rfl zq10 ?_)
    with_reducible refine (zIa k l0 l1 e0 e1 _ (zoa (E.out.K KW0.out) (E.out.K KW1.out)) FS.out).mono ?_
    rintro e w75_ ⟨d76_,rfl,Md76_,hb⟩
    have q:=E.out.made4 O.out 2 rfl Md76_ hb;clear O E Md76_ hb;obtain ⟨n77_,m78_,Ld76_,Od76_,O,E⟩:=q
    refine ⟨_,rfl,⟨(E.out.box 6 rfl),(E.out.box 2 rfl),trivial⟩,(fun hHeld=> ?_)⟩
    refine zG (a':= ?_) ?_ ?_;rotate_left;(· show Act.put _ (some 43) _=_;simp only [Act.put,s_A,s_0,s_1,zr];try rfl)
    refine zW rfl (zL rfl Tryz.func39 zq7 rfl #[.int .i64 m.f0] zq15 rfl zq10 ?_)
    with_reducible refine (pageS_c m.f0 _ FX.out).mono ?_
    rintro e w79_ ⟨rfl,hb⟩
    replace E:=zz (E.out.call hb);clear hb
    refine ⟨_,rfl,⟨(E.out.box 6 rfl),(E.out.box 2 rfl),trivial⟩,(fun hHeld=> ?_)⟩
    refine zG (a':= ?_) ?_ ?_;rotate_left;(· show Act.put _ (some 46) _=_;simp only [Act.put,s_A,s_0,s_1,zr];try rfl)
    refine zW rfl (zL rfl Tryz.func38 zq7 rfl #[.agg d76_.toArray,.int .i64 (m.f0%2),.string t] zq15 rfl zq10 ?_)
    with_reducible refine (writeS_no k e0 e1 (m.f0%2) t _ (E.out.mk_ 0 rfl) FE.out FD.out).mono ?_
    rintro e w80_ ⟨d81_,rfl,Md81_,hb⟩
    have q:=E.out.made4 O.out 2 rfl Md81_ hb;clear O E Md81_ hb;obtain ⟨n82_,m83_,Ld81_,Od81_,O,E⟩:=q
    refine ⟨_,rfl,⟨(E.out.box 7 rfl),(E.out.box 3 rfl),trivial⟩,(fun hHeld=> ?_)⟩
    refine zG (a':= ?_) ?_ ?_;rotate_left;(· show Act.put _ (some 48) _=_;simp only [Act.put,s_A,s_0,s_1,zr];try rfl)
    iterate 3 (refine zY (v:= ?_) (a':= ?_) rfl rfl (Or.inl ⟨by rfl,?_⟩) ?_ ?_;rotate_left;(· intro w';go_simp;with_reducible rfl);rotate_left;(· show Act.put _ (some _) _=_;simp only [Act.put,s_A,s_0,s_1,zr];try rfl))
    refine tre_l rfl (zC rfl zq15 37 _ _ rfl w8_.heap.size 0 d81_ [] [.slice none 0 0,.slice none 0 0] [] rfl rfl (E.out.box 2 rfl) zq6 (rfl) (by rw [Ld81_.out];rfl) (by rw [Ld81_.out];kernel_rfl) Od81_.out (fun W84_ hp hn=> ?_))
    replace E:=E.out.put2 2 hp hn zq8;clear hp hn
    (refine zY (v:= ?_) (a':= ?_) rfl rfl (Or.inl ⟨by rfl,?_⟩) ?_ ?_;rotate_left;(· intro w';go_simp;with_reducible rfl);rotate_left;(· show Act.put _ (some _) _=_;simp only [Act.put,s_A,s_0,s_1,zr];try rfl))
    refine zX ?_
    clear hHeld
    go_upto_region 9 with (fail)
    replace E:=zz E.out.drew
    refine zca zVa (S:=fun w'=>w'.heap[w.heap.size]?=some (.cells (cs:List Value).toArray 46 (0,0))∧True) zq7 (fun _ _ _ _ h=>h) ⟨(E.out.box 7 rfl),trivial⟩ (fun hHeld=> ?_)
    generalize hq:World.drew _=w85_ at hHeld ⊢;replace E:=E.out.to hq;clear hq
    iterate 2 (refine zY (v:= ?_) (a':= ?_) rfl rfl (Or.inl ⟨by rfl,?_⟩) ?_ ?_;rotate_left;(· intro w';go_simp;with_reducible rfl);rotate_left;(· show Act.put _ (some _) _=_;simp only [Act.put,s_A,s_0,s_1,zr];try rfl))
    refine zJ (a':= ?ax86_) rfl rfl zq15 37 _ rfl w.heap.size 4 cM [.slice B0 l0.length d0,.slice B1 l1.length d1] (cW2++[.int .i64 n]) _ rfl (fun w' hs=>hs.1) zq17 (LM.out) Tryz.underlying37 rfl zq7 ?px86_ ?kx86_
    case px86_=>(show Act.put _ (some _) _=_;simp only [Act.put,s_A,s_0,s_1,zr];try rfl)
    (refine zY (v:= ?_) (a':= ?_) rfl rfl (Or.inl ⟨by rfl,?_⟩) ?_ ?_;rotate_left;(· intro w';go_simp;with_reducible rfl);rotate_left;(· show Act.put _ (some _) _=_;simp only [Act.put,s_A,s_0,s_1,zr];try rfl))
    refine zJ (a':= ?ax87_) rfl rfl zq15 40 _ rfl w.heap.size 0 [] cM ([.slice B0 l0.length d0]++([.slice B1 l1.length d1]++(cW2++[.int .i64 n]))) _ rfl (fun w' hs=>hs.1) zq17 (rfl) Tryz.underlying40 rfl zq43 ?px87_ ?kx87_
    case px87_=>(show Act.put _ (some _) _=_;simp only [Act.put,s_A,s_0,s_1,zr];try rfl)
    refine zW rfl (zL rfl Tryz.func36 zq7 rfl #[.agg [.slice B0 l0.length d0,.slice B1 l1.length d1].toArray] zq15 rfl zq10 ?_)
    with_reducible refine (zEb l0 l1 _ (zoa (E.out.K KW0.out) (E.out.K KW1.out)) FL.out).mono ?_
    rintro e w88_ ⟨d89_,rfl,Md89_,hb⟩
    have q:=E.out.made4 O.out 2 rfl Md89_ hb;clear O E Md89_ hb;obtain ⟨n90_,m91_,Ld89_,Od89_,O,E⟩:=q
    refine ⟨_,rfl,⟨(E.out.box 8 rfl),trivial⟩,(fun hHeld=> ?_)⟩
    refine zG (a':= ?_) ?_ ?_;rotate_left;(· show Act.put _ (some 56) _=_;simp only [Act.put,s_A,s_0,s_1,zr];try rfl)
    refine zW rfl (zL rfl Tryz.func34 zq7 rfl #[.agg cM.toArray] zq15 rfl zq10 ?_)
    with_reducible refine (zCb y y _ (E.out.K KM.out) ⟨rfl,F1.out⟩).mono ?_
    rintro e w92_ ⟨d93_,rfl,Md93_,hb⟩
    have q:=E.out.made4 O.out 4 rfl Md93_ hb;clear O E Md93_ hb;obtain ⟨n94_,m95_,Ld93_,Od93_,O,E⟩:=q
    refine ⟨_,rfl,⟨(E.out.box 9 rfl),trivial⟩,(fun hHeld=> ?_)⟩
    refine zG (a':= ?_) ?_ ?_;rotate_left;(· show Act.put _ (some 59) _=_;simp only [Act.put,s_A,s_0,s_1,zr];try rfl)
    refine zW rfl (zC rfl zq15 37 _ _ rfl (w.heap.size+1) 0 d89_ [] [.slice none 0 0,.slice none 0 0] [] rfl rfl (E.out.box 8 rfl) zq6 (rfl) (by rw [Ld89_.out];rfl) (by rw [Ld89_.out];kernel_rfl) Od89_.out (fun W96_ hp hn=> ?_))
    replace E:=E.out.put2 8 hp hn zq8;clear hp hn
    refine ⟨⟨(E.out.box 9 rfl),trivial⟩,(fun hHeld=> ?_)⟩
    refine zW rfl (zC rfl zq15 40 _ _ rfl (w.heap.size+1+1) 0 d93_ [] Z40 [] rfl rfl (E.out.box 7 rfl) zq6 (rfl) (by rw [Ld93_.out];rfl) (by rw [Ld93_.out];kernel_rfl) Od93_.out (fun W97_ hp hn=> ?_))
    replace E:=E.out.put2 7 hp hn zq8;clear hp hn
    refine ⟨⟨(E.out.box 9 rfl),trivial⟩,(fun hHeld=> ?_)⟩
    (refine zY (v:= ?_) (a':= ?_) rfl rfl (Or.inl ⟨by rfl,?_⟩) ?_ ?_;rotate_left;(· intro w';go_simp;with_reducible rfl);rotate_left;(· show Act.put _ (some _) _=_;simp only [Act.put,s_A,s_0,s_1,zr];try rfl))
    refine zX ?_
    clear hHeld
    go_wp2_with fail
    have BX:=zz (show _=some (Obj.cells (d89_:List Value).toArray 37 (0,0)) from by first|exact (E.out.box 8 rfl)|simpa only [aA,aN,aL] using (E.out.box 8 rfl))
    have BX2:=zz (show _=some (Obj.cells (d93_:List Value).toArray 40 (0,0)) from by first|exact (E.out.box 7 rfl)|simpa only [aA,aN,aL] using (E.out.box 7 rfl))
    refine bodyPost_ret (zM (rs:=[.cell 2 37,.cell 3 40,.tmp 4]) rfl zq16 (.cell (w.heap.size+1) 37 _ _ _ rfl BX.out Tryz.underlying37 rfl (by rw [List.size_toArray,show (d89_:List Value).length=2 from Ld89_.out];kernel_rfl) (.cell (w.heap.size+1+1) 40 _ _ _ rfl BX2.out Tryz.underlying40 rfl (by rw [List.size_toArray,show (d93_:List Value).length=4 from Ld93_.out];kernel_rfl) (.tmp .nil)))) rfl ?_
    exact ⟨_,_,rfl,⟨n90_,m91_,n94_,m95_,zq22,(E.out.made 1 rfl),(E.out.made 0 rfl)⟩,E.out.below⟩
def commitS_D_T10:Bool×List (List Nat×List Nat):=(true,[([],[]),([0],[0]),([],[]),([1,1,0,1],[1]),([2,3,0,1,2,3],[2]),([4,0,1,2,3,4],[])])
def commitS_D_B10:List Nat:=[0,1,0,3,15,31]
theorem zPa:regT (zQa Tryz.f7 10) commitS_D_T10 commitS_D_B10 [] (.t 0 (.t 2 (.e 1 (.e 3 (.e 4 (.p 5 .d))))))=true:=by kernel_rfl
def commitS_D_T7:Bool×List (List Nat×List Nat):=(true,[([],[]),([0],[0]),([1],[1]),([2],[2]),([],[]),([4],[4]),([5,3],[5]),([],[]),([3,6,7,6],[3,6,7]),([8],[8]),([9],[9]),([9],[9]),([],[]),([12,10,8,0,1,2,3,4,5,6,7,8,9,10,12],[10,12]),([11,13,0,1,2,3,4,5,6,7,8,9,10,11,12,13],[11])])
def commitS_D_B7:List Nat:=[0,1,3,7,0,16,63,0,255,511,1023,1023,0,6143,16383]
theorem commitS_D_ok7_1:regT (zQa Tryz.f7 7) commitS_D_T7 commitS_D_B7 [13] (.p 0 (.p 1 (.t 2 (.p 4 (.t 5 (.p 7 (.two 3 12 (.two 6 12 (.two 8 12 (.p 9 (.p 10 (.p 11 (.e 12 (.l 13 (.p 14 .d)))))) (.e 8 (.p 9 (.p 10 (.p 11 (.l 13 (.p 14 .d))))))) (.e 6 (.e 8 (.p 9 (.p 10 (.p 11 (.l 13 (.p 14 .d)))))))) (.e 3 (.e 6 (.e 8 (.p 9 (.p 10 (.p 11 (.l 13 (.p 14 .d)))))))))))))))=true:=by kernel_rfl
theorem commitS_D (k:Nat) (y:S40) (l0:List ByteArray) (l1:List S110) (l2:Int) (l3 l4 l5:List Int) (n:Int) (m:S40) (t:ByteArray) (ok:Bool) (e0:List ByteArray) (e1:List S110) (z:(List ByteArray×List S110)) (g0:List ByteArray) (g1:List S110) {cs:List Value} (w:World) (h:kTxn.K w (y,(l0,l1,l2,l3,l4,l5),n) cs) (fi:zyb (y,(l0,l1,l2,l3,l4,l5),n)=false) (fn:SpecNM k (y,(l0,l1,l2,l3,l4,l5),n) m true) (ft:∃(vt:Int→ByteArray) (sl:ByteArray→ByteArray),TxF k vt sl∧MTxt vt sl m t ok) (fs:spec_SyncDisk.f k l0 l1=some (e0,e1)) (fx:0≤m.f0∧m.f0≤100000) (fw:spec_WritePage.f k e0 e1 (m.f0%2) t=some (z.1,z.2,true)) (fs2:spec_SyncDisk.f k z.1 z.2=some (g0,g1)):
    Calls Tryz.prog 7 #[.agg cs.toArray] w fun e w'=>∃ds es:List Value,e= .returned (.tuple #[.agg ds.toArray,.agg es.toArray,.bool true])∧Two w w' kDisk (g0,g1) ds k40 m es∧Below w.heap.size w w':=by
  have KS0:=h
  obtain ⟨cM,_,rfl,hM,cW_,cI,rfl,hW_,hI⟩:=h
  obtain rfl:cI=[.int .i64 n]:=hI
  obtain ⟨u0,_,rfl,hU0,u1,cW2,rfl,hU1,hW2⟩:=hW_
  have hV0:=hU0
  have hV1:=hU1
  obtain ⟨B0,d0,rfl,-,-⟩:=hU0
  obtain ⟨B1,d1,rfl,-,-⟩:=hU1
  obtain ⟨cs,hcs⟩:∃cs,cs=cM++([.slice B0 l0.length d0]++([.slice B1 l1.length d1]++(cW2++[.int .i64 n]))):=⟨_,rfl⟩
  simp only [List.append_assoc] at KS0 ⊢
  rw [←hcs] at KS0 ⊢
  have Ecs:=zz hcs
  have KS:=zz KS0
  have KM:=zz hM;have KW0:=zz (show (Own.srow 9 Kd.string).K w l0 [.slice B0 l0.length d0] from hV0);have KW1:=zz (show (Own.srow 110 k110).K w l1 [.slice B1 l1.length d1] from hV1);have KW2:=zz hW2
  have LM:=zz (show cM.length=4 from Kd.K_len _ hM);have LW2:=zz (show cW2.length=4 from Kd.K_len _ hW2);have Lcs:=zz (show cs.length=11 from Kd.K_len _ KS0)
  have FI:=zz fi;clear fi
  have FN:=zz fn;clear fn
  have FT:=zz ft;clear ft
  have FS:=zz fs;clear fs
  have FX:=zz fx;clear fx
  have FW:=zz fw;clear fw
  have FS2:=zz fs2;clear fs2
  clear KS0 hM hV0 hV1 hW2 hcs
  have O:=zz (Nat.le_refl w.heap.size)
  have E:=zz (Env.start w)
  go_enter Tryz.func7,Tryz.ntmps7
  go_wp2_with (first|((with_reducible refine zn (N:=11) rfl ?_);replace O:=zz (And.intro E.out.le O.out);replace E:=zz (E.out.alloc cs 46 (g:=w.heap.size) rfl);replace E:=zz (E.out.alloc [.slice none 0 0,.slice none 0 0] 37 (g:=(w.heap.size+1)) zq16);replace E:=zz (E.out.alloc Z40 40 (g:=(w.heap.size+1+1)) zq16);refine zA rfl 46 _ rfl w.heap.size 0 [] cs [] _ rfl (E.out.box 2 rfl) zq6 (rfl) Tryz.underlying46 rfl zq32 ?_))
  ((with_reducible refine (idleS_d y l0 l1 l2 l3 l4 l5 n false _ (E.out.K KS.out) FI.out).mono ?_);rintro e w1_ ⟨rfl,hb⟩)
  replace E:=zz (E.out.call hb);clear hb
  go_wp2_with (first|((with_reducible refine zn (N:=21) rfl ?_);refine zA rfl 46 _ rfl w.heap.size 0 [] cs [] _ rfl (E.out.box 2 rfl) zq6 (rfl) Tryz.underlying46 rfl zq32 ?_))
  ((with_reducible refine (specNM_c k (y,(l0,l1,l2,l3,l4,l5),n) m true _ (E.out.K KS.out) FN.out).mono ?_);rintro e w2_ ⟨d3_,rfl,Md3_,hb⟩)
  have Ld3_:=zz (show d3_.length=4 from Kd.K_len _ (Kd.K_of_M _ Md3_));have Od3_:=zz (zub (Kd.K_of_M _ Md3_))
  obtain ⟨n4_,m5_,hT,hE⟩:=E.out.made_ Md3_ hb;replace O:=zz (And.intro hT O.out);replace E:=zz hE;clear hT hE Md3_ hb
  obtain ⟨AG,cG,hg⟩:=meta_lit (E.out.made 0 rfl);have Ed3_:=zz hg;clear hg
  go_wp2_with (first|((with_reducible refine zE (t:=40) (p:=5) rfl ?_);replace O:=zz (And.intro E.out.le O.out);replace E:=zz (E.out.alloc Z40 40 (g:=w2_.heap.size) rfl);refine zK rfl 40 _ _ rfl rfl w2_.heap.size 0 d3_ [] Z40 [] rfl rfl (E.out.box 0 rfl) zq6 (rfl) zq44 zq31 Od3_.out ?_;intro W6_ hp hn;replace E:=E.out.put2 0 hp hn zq8;clear hp hn)|((with_reducible refine zn (N:=35) rfl ?_);refine zA rfl 40 _ rfl w2_.heap.size 0 [] d3_ [] _ rfl (E.out.box 0 rfl) zq6 (rfl) Tryz.underlying40 rfl zq31 ?_))
  ((with_reducible refine (metaTextS_c k m t ok _ (E.out.mk_ 1 rfl) FT.out).mono ?_);rintro e w7_ ⟨rfl,hb⟩)
  replace E:=zz (E.out.call hb);clear hb
  go_upto_region 7 with (fail)
  replace E:=zz E.out.drew
  refine zca commitS_D_ok7_1 (S:=fun w'=>w'.heap[w.heap.size]?=some (.cells (cs:List Value).toArray 46 (0,0))∧w'.heap[w2_.heap.size]?=some (.cells (([]++(d3_++[])):List Value).toArray 40 (0,0))∧True) zq7 (fun _ _ _ _ h=>h) ⟨(E.out.box 4 rfl),(E.out.box 0 rfl),trivial⟩ (fun hHeld=> ?_)
  generalize hq:World.drew _=w8_ at hHeld ⊢;replace E:=E.out.to hq;clear hq
  iterate 2 (refine zY (v:= ?_) (a':= ?_) rfl rfl (Or.inl ⟨by rfl,?_⟩) ?_ ?_;rotate_left;(· intro w';go_simp;with_reducible rfl);rotate_left;(· show Act.put _ (some _) _=_;simp only [Act.put,s_A,s_0,s_1,zr];try rfl))
  refine zJ (a':= ?ax9_) rfl rfl zq15 37 _ rfl w.heap.size 4 cM [.slice B0 l0.length d0,.slice B1 l1.length d1] (cW2++[.int .i64 n]) _ rfl (fun w' hs=>hs.1) zq17 (LM.out) Tryz.underlying37 rfl zq7 ?px9_ ?kx9_
  case px9_=>(show Act.put _ (some _) _=_;simp only [Act.put,s_A,s_0,s_1,zr];try rfl)
  (refine zY (v:= ?_) (a':= ?_) rfl rfl (Or.inl ⟨by rfl,?_⟩) ?_ ?_;rotate_left;(· intro w';go_simp;with_reducible rfl);rotate_left;(· show Act.put _ (some _) _=_;simp only [Act.put,s_A,s_0,s_1,zr];try rfl))
  refine zDa (a':= ?ax10_) rfl rfl zq15 3 _ rfl w2_.heap.size 0 [] (.int .i64 m.f0) ([.int .i64 m.f1]++([.int .i64 m.f2]++[.slice AG m.f3.length cG])) _ rfl (fun w' hs=>hs.2.1) (by simp only [aA,aN,aL];rw [Ed3_.out];first|done|rfl|(simp only [aA,aN,aL];first|done|rfl)) (rfl) Tryz.underlying3 rfl ?px10_ ?kx10_
  case px10_=>(show Act.put _ (some _) _=_;simp only [Act.put,s_A,s_0,s_1,zr];try rfl)
  (refine zY (v:= ?_) (a':= ?_) rfl rfl (Or.inl ⟨by rfl,?_⟩) ?_ ?_;rotate_left;(· intro w';go_simp;with_reducible rfl);rotate_left;(· show Act.put _ (some _) _=_;simp only [Act.put,s_A,s_0,s_1,zr];try rfl))
  refine zHb rfl rfl (zL rfl Tryz.func33 zq7 rfl #[.agg [.slice B0 l0.length d0,.slice B1 l1.length d1].toArray] zq15 rfl zq10 ?_) (zGa rfl zq15 37 rfl [.slice none 0 0,.slice none 0 0] zq7 ?_)
  ·
    with_reducible refine (zIa k l0 l1 e0 e1 _ (zoa (E.out.K KW0.out) (E.out.K KW1.out)) FS.out).mono ?_
    rintro e w11_ ⟨d12_,rfl,Md12_,hb⟩
    have q:=E.out.made4 O.out 2 rfl Md12_ hb;clear O E Md12_ hb;obtain ⟨n13_,m14_,Ld12_,Od12_,O,E⟩:=q
    refine ⟨_,rfl,⟨(E.out.box 5 rfl),(E.out.box 1 rfl),trivial⟩,(fun hHeld=> ?_)⟩
    refine zG (a':= ?_) ?_ ?_;rotate_left;(· show Act.put _ (some 43) _=_;simp only [Act.put,s_A,s_0,s_1,zr];try rfl)
    refine zHb rfl rfl (zL rfl Tryz.func39 zq7 rfl #[.int .i64 m.f0] zq15 rfl zq10 ?_) (zGa rfl zq15 37 rfl [.slice none 0 0,.slice none 0 0] zq7 ?_)
    ·
      with_reducible refine (pageS_c m.f0 _ FX.out).mono ?_
      rintro e w15_ ⟨rfl,hb⟩
      replace E:=zz (E.out.call hb);clear hb
      refine ⟨_,rfl,⟨(E.out.box 5 rfl),(E.out.box 1 rfl),trivial⟩,(fun hHeld=> ?_)⟩
      refine zG (a':= ?_) ?_ ?_;rotate_left;(· show Act.put _ (some 46) _=_;simp only [Act.put,s_A,s_0,s_1,zr];try rfl)
      refine zHb rfl rfl (zL rfl Tryz.func38 zq7 rfl #[.agg d12_.toArray,.int .i64 (m.f0%2),.string t] zq15 rfl zq10 ?_) (zGa rfl zq15 37 rfl [.slice none 0 0,.slice none 0 0] zq7 ?_)
      ·
        with_reducible refine (writeS_t k (e0,e1) z (m.f0%2) t _ (E.out.mk_ 0 rfl) FW.out).mono ?_
        rintro e w16_ ⟨d17_,rfl,Md17_,hb⟩
        have q:=E.out.made4 O.out 2 rfl Md17_ hb;clear O E Md17_ hb;obtain ⟨n18_,m19_,Ld17_,Od17_,O,E⟩:=q
        refine ⟨_,rfl,⟨(E.out.box 6 rfl),(E.out.box 2 rfl),trivial⟩,(fun hHeld=> ?_)⟩
        refine zG (a':= ?_) ?_ ?_;rotate_left;(· show Act.put _ (some 48) _=_;simp only [Act.put,s_A,s_0,s_1,zr];try rfl)
        iterate 3 (refine zY (v:= ?_) (a':= ?_) rfl rfl (Or.inl ⟨by rfl,?_⟩) ?_ ?_;rotate_left;(· intro w';go_simp;with_reducible rfl);rotate_left;(· show Act.put _ (some _) _=_;simp only [Act.put,s_A,s_0,s_1,zr];try rfl))
        refine zW rfl (zGa rfl zq15 37 rfl [.slice none 0 0,.slice none 0 0] zq7 ?_)
        replace O:=zz (And.intro E.out.le O.out)
        replace E:=zz (E.out.alloc [.slice none 0 0,.slice none 0 0] 37 (g:=w16_.heap.size) rfl)
        refine ⟨⟨(E.out.box 7 rfl),(E.out.box 3 rfl),trivial⟩,(fun hHeld=> ?_)⟩
        refine zG (a':= ?_) ?_ ?_;rotate_left;(· show Act.put _ (some 9) _=_;simp only [Act.put,s_A,s_0,s_1,zr];try rfl)
        generalize (w16_.alloc (.cells [.slice none 0 0,.slice none 0 0].toArray 37))=w20_ at E hHeld ⊢
        refine tre_l rfl (zC rfl zq15 37 _ _ rfl w16_.heap.size 0 d17_ [] [.slice none 0 0,.slice none 0 0] [] rfl rfl (E.out.box 0 rfl) zq6 (rfl) (by rw [Ld17_.out];rfl) zq49 Od17_.out (fun W21_ hp hn=> ?_))
        replace E:=E.out.put2 0 hp hn zq8;clear hp hn
        (refine zY (v:= ?_) (a':= ?_) rfl rfl (Or.inl ⟨by rfl,?_⟩) ?_ ?_;rotate_left;(· intro w';go_simp;with_reducible rfl);rotate_left;(· show Act.put _ (some _) _=_;simp only [Act.put,s_A,s_0,s_1,zr];try rfl))
        refine zX ?_
        clear hHeld
        go_upto_region 10 with (fail)
        replace E:=zz E.out.drew
        refine zca zPa (S:=fun w'=>w'.heap[w16_.heap.size]?=some (.cells (([]++(d17_++[])):List Value).toArray 37 (0,0))∧w'.heap[w2_.heap.size]?=some (.cells (([]++(d3_++[])):List Value).toArray 40 (0,0))∧True) zq7 (fun _ _ _ _ h=>h) ⟨(E.out.box 0 rfl),(E.out.box 3 rfl),trivial⟩ (fun hHeld=> ?_)
        generalize hq:World.drew _=w22_ at hHeld ⊢;replace E:=E.out.to hq;clear hq
        refine zJ (a':= ?ax23_) rfl rfl zq15 37 _ rfl w16_.heap.size 0 [] d17_ [] _ rfl (fun w' hs=>hs.1) zq6 (rfl) Tryz.underlying37 rfl zq49 ?px23_ ?kx23_
        case px23_=>(show Act.put _ (some _) _=_;simp only [Act.put,s_A,s_0,s_1,zr];try rfl)
        refine zJ (a':= ?ax24_) rfl rfl zq15 40 _ rfl w2_.heap.size 0 [] d3_ [] _ rfl (fun w' hs=>hs.2.1) zq6 (rfl) Tryz.underlying40 rfl zq31 ?px24_ ?kx24_
        case px24_=>(show Act.put _ (some _) _=_;simp only [Act.put,s_A,s_0,s_1,zr];try rfl)
        refine zW rfl (zL rfl Tryz.func33 zq7 rfl #[.agg d17_.toArray] zq15 rfl zq10 ?_)
        with_reducible refine (zIa k z.1 z.2 g0 g1 _ (E.out.mk_ 1 rfl) FS2.out).mono ?_
        rintro e w25_ ⟨d26_,rfl,Md26_,hb⟩
        have q:=E.out.made4 O.out 2 rfl Md26_ hb;clear O E Md26_ hb;obtain ⟨n27_,m28_,Ld26_,Od26_,O,E⟩:=q
        refine ⟨_,rfl,⟨(E.out.box 1 rfl),(E.out.box 4 rfl),trivial⟩,(fun hHeld=> ?_)⟩
        refine zG (a':= ?_) ?_ ?_;rotate_left;(· show Act.put _ (some 61) _=_;simp only [Act.put,s_A,s_0,s_1,zr];try rfl)
        refine zW rfl (zC rfl zq15 37 _ _ rfl (w.heap.size+1) 0 d26_ [] [.slice none 0 0,.slice none 0 0] [] rfl rfl (E.out.box 7 rfl) zq6 (rfl) (by rw [Ld26_.out];rfl) (by rw [Ld26_.out];kernel_rfl) Od26_.out (fun W29_ hp hn=> ?_))
        replace E:=E.out.put2 7 hp hn zq8;clear hp hn
        refine ⟨⟨(E.out.box 1 rfl),(E.out.box 4 rfl),trivial⟩,(fun hHeld=> ?_)⟩
        refine zW rfl (zC rfl zq15 40 _ _ rfl (w.heap.size+1+1) 0 d3_ [] Z40 [] rfl rfl (E.out.box 6 rfl) zq6 (rfl) zq44 zq31 Od3_.out (fun W30_ hp hn=> ?_))
        replace E:=E.out.put2 6 hp hn zq8;clear hp hn
        refine ⟨⟨(E.out.box 1 rfl),(E.out.box 4 rfl),trivial⟩,(fun hHeld=> ?_)⟩
        (refine zY (v:= ?_) (a':= ?_) rfl rfl (Or.inl ⟨by rfl,?_⟩) ?_ ?_;rotate_left;(· intro w';go_simp;with_reducible rfl);rotate_left;(· show Act.put _ (some _) _=_;simp only [Act.put,s_A,s_0,s_1,zr];try rfl))
        refine zX ?_
        clear hHeld
        go_wp2_with fail
        have BX:=zz (show _=some (Obj.cells (d26_:List Value).toArray 37 (0,0)) from by first|exact (E.out.box 7 rfl)|simpa only [aA,aN,aL] using (E.out.box 7 rfl))
        have BX2:=zz (show _=some (Obj.cells (d3_:List Value).toArray 40 (0,0)) from by first|exact (E.out.box 6 rfl)|simpa only [aA,aN,aL] using (E.out.box 6 rfl))
        refine bodyPost_ret (zM (rs:=[.cell 2 37,.cell 3 40,.tmp 4]) rfl zq16 (.cell (w.heap.size+1) 37 _ _ _ rfl BX.out Tryz.underlying37 rfl (by rw [List.size_toArray,show (d26_:List Value).length=2 from Ld26_.out];kernel_rfl) (.cell (w.heap.size+1+1) 40 _ _ _ rfl BX2.out Tryz.underlying40 rfl zq34 (.tmp .nil)))) rfl ?_
        exact ⟨_,_,rfl,⟨n27_,m28_,n4_,m5_,zq22,(E.out.made 0 rfl),(E.out.made 5 rfl)⟩,E.out.below⟩
      ·
        replace O:=zz (And.intro E.out.le O.out)
        replace E:=zz (E.out.alloc [.slice none 0 0,.slice none 0 0] 37 (g:=w15_.heap.size) rfl)
        refine ⟨⟨(E.out.box 6 rfl),(E.out.box 2 rfl),trivial⟩,(fun hHeld=> ?_)⟩
        refine zG (a':= ?_) ?_ ?_;rotate_left;(· show Act.put _ (some 9) _=_;simp only [Act.put,s_A,s_0,s_1,zr];try rfl)
        generalize (w15_.alloc (.cells [.slice none 0 0,.slice none 0 0].toArray 37))=w31_ at E hHeld ⊢
        refine zW rfl (zL rfl Tryz.func38 zq7 rfl #[.agg d12_.toArray,.int .i64 (m.f0%2),.string t] zq15 rfl zq10 ?_)
        with_reducible refine (writeS_t k (e0,e1) z (m.f0%2) t _ (E.out.mk_ 1 rfl) FW.out).mono ?_
        rintro e w32_ ⟨d33_,rfl,Md33_,hb⟩
        have q:=E.out.made4 O.out 2 rfl Md33_ hb;clear O E Md33_ hb;obtain ⟨n34_,m35_,Ld33_,Od33_,O,E⟩:=q
        refine ⟨_,rfl,⟨(E.out.box 7 rfl),(E.out.box 3 rfl),trivial⟩,(fun hHeld=> ?_)⟩
        refine zG (a':= ?_) ?_ ?_;rotate_left;(· show Act.put _ (some 48) _=_;simp only [Act.put,s_A,s_0,s_1,zr];try rfl)
        iterate 3 (refine zY (v:= ?_) (a':= ?_) rfl rfl (Or.inl ⟨by rfl,?_⟩) ?_ ?_;rotate_left;(· intro w';go_simp;with_reducible rfl);rotate_left;(· show Act.put _ (some _) _=_;simp only [Act.put,s_A,s_0,s_1,zr];try rfl))
        refine tre_l rfl (zC rfl zq15 37 _ _ rfl w15_.heap.size 0 d33_ [] [.slice none 0 0,.slice none 0 0] [] rfl rfl (E.out.box 1 rfl) zq6 (rfl) (by rw [Ld33_.out];rfl) (by rw [Ld33_.out];kernel_rfl) Od33_.out (fun W36_ hp hn=> ?_))
        replace E:=E.out.put2 1 hp hn zq8;clear hp hn
        (refine zY (v:= ?_) (a':= ?_) rfl rfl (Or.inl ⟨by rfl,?_⟩) ?_ ?_;rotate_left;(· intro w';go_simp;with_reducible rfl);rotate_left;(· show Act.put _ (some _) _=_;simp only [Act.put,s_A,s_0,s_1,zr];try rfl))
        refine zX ?_
        clear hHeld
        go_upto_region 10 with (fail)
        replace E:=zz E.out.drew
        refine zca zPa (S:=fun w'=>w'.heap[w15_.heap.size]?=some (.cells (([]++(d33_++[])):List Value).toArray 37 (0,0))∧w'.heap[w2_.heap.size]?=some (.cells (([]++(d3_++[])):List Value).toArray 40 (0,0))∧True) zq7 (fun _ _ _ _ h=>h) ⟨(E.out.box 1 rfl),(E.out.box 3 rfl),trivial⟩ (fun hHeld=> ?_)
        generalize hq:World.drew _=w37_ at hHeld ⊢;replace E:=E.out.to hq;clear hq
        refine zJ (a':= ?ax38_) rfl rfl zq15 37 _ rfl w15_.heap.size 0 [] d33_ [] _ rfl (fun w' hs=>hs.1) zq6 (rfl) Tryz.underlying37 rfl (by rw [Ld33_.out];kernel_rfl) ?px38_ ?kx38_
        case px38_=>(show Act.put _ (some _) _=_;simp only [Act.put,s_A,s_0,s_1,zr];try rfl)
        refine zJ (a':= ?ax39_) rfl rfl zq15 40 _ rfl w2_.heap.size 0 [] d3_ [] _ rfl (fun w' hs=>hs.2.1) zq6 (rfl) Tryz.underlying40 rfl zq31 ?px39_ ?kx39_
        case px39_=>(show Act.put _ (some _) _=_;simp only [Act.put,s_A,s_0,s_1,zr];try rfl)
        refine zW rfl (zL rfl Tryz.func33 zq7 rfl #[.agg d33_.toArray] zq15 rfl zq10 ?_)
        with_reducible refine (zIa k z.1 z.2 g0 g1 _ (E.out.mk_ 0 rfl) FS2.out).mono ?_
        rintro e w40_ ⟨d41_,rfl,Md41_,hb⟩
        have q:=E.out.made4 O.out 2 rfl Md41_ hb;clear O E Md41_ hb;obtain ⟨n42_,m43_,Ld41_,Od41_,O,E⟩:=q
        refine ⟨_,rfl,⟨(E.out.box 2 rfl),(E.out.box 4 rfl),trivial⟩,(fun hHeld=> ?_)⟩
        refine zG (a':= ?_) ?_ ?_;rotate_left;(· show Act.put _ (some 61) _=_;simp only [Act.put,s_A,s_0,s_1,zr];try rfl)
        refine zW rfl (zC rfl zq15 37 _ _ rfl (w.heap.size+1) 0 d41_ [] [.slice none 0 0,.slice none 0 0] [] rfl rfl (E.out.box 7 rfl) zq6 (rfl) (by rw [Ld41_.out];rfl) (by rw [Ld41_.out];kernel_rfl) Od41_.out (fun W44_ hp hn=> ?_))
        replace E:=E.out.put2 7 hp hn zq8;clear hp hn
        refine ⟨⟨(E.out.box 2 rfl),(E.out.box 4 rfl),trivial⟩,(fun hHeld=> ?_)⟩
        refine zW rfl (zC rfl zq15 40 _ _ rfl (w.heap.size+1+1) 0 d3_ [] Z40 [] rfl rfl (E.out.box 6 rfl) zq6 (rfl) zq44 zq31 Od3_.out (fun W45_ hp hn=> ?_))
        replace E:=E.out.put2 6 hp hn zq8;clear hp hn
        refine ⟨⟨(E.out.box 2 rfl),(E.out.box 4 rfl),trivial⟩,(fun hHeld=> ?_)⟩
        (refine zY (v:= ?_) (a':= ?_) rfl rfl (Or.inl ⟨by rfl,?_⟩) ?_ ?_;rotate_left;(· intro w';go_simp;with_reducible rfl);rotate_left;(· show Act.put _ (some _) _=_;simp only [Act.put,s_A,s_0,s_1,zr];try rfl))
        refine zX ?_
        clear hHeld
        go_wp2_with fail
        have BX:=zz (show _=some (Obj.cells (d41_:List Value).toArray 37 (0,0)) from by first|exact (E.out.box 7 rfl)|simpa only [aA,aN,aL] using (E.out.box 7 rfl))
        have BX2:=zz (show _=some (Obj.cells (d3_:List Value).toArray 40 (0,0)) from by first|exact (E.out.box 6 rfl)|simpa only [aA,aN,aL] using (E.out.box 6 rfl))
        refine bodyPost_ret (zM (rs:=[.cell 2 37,.cell 3 40,.tmp 4]) rfl zq16 (.cell (w.heap.size+1) 37 _ _ _ rfl BX.out Tryz.underlying37 rfl (by rw [List.size_toArray,show (d41_:List Value).length=2 from Ld41_.out];kernel_rfl) (.cell (w.heap.size+1+1) 40 _ _ _ rfl BX2.out Tryz.underlying40 rfl zq34 (.tmp .nil)))) rfl ?_
        exact ⟨_,_,rfl,⟨n42_,m43_,n4_,m5_,zq22,(E.out.made 0 rfl),(E.out.made 5 rfl)⟩,E.out.below⟩
    ·
      replace O:=zz (And.intro E.out.le O.out)
      replace E:=zz (E.out.alloc [.slice none 0 0,.slice none 0 0] 37 (g:=w11_.heap.size) rfl)
      refine ⟨⟨(E.out.box 6 rfl),(E.out.box 2 rfl),trivial⟩,(fun hHeld=> ?_)⟩
      refine zG (a':= ?_) ?_ ?_;rotate_left;(· show Act.put _ (some 9) _=_;simp only [Act.put,s_A,s_0,s_1,zr];try rfl)
      generalize (w11_.alloc (.cells [.slice none 0 0,.slice none 0 0].toArray 37))=w46_ at E hHeld ⊢
      refine zW rfl (zL rfl Tryz.func39 zq7 rfl #[.int .i64 m.f0] zq15 rfl zq10 ?_)
      with_reducible refine (pageS_c m.f0 _ FX.out).mono ?_
      rintro e w47_ ⟨rfl,hb⟩
      replace E:=zz (E.out.call hb);clear hb
      refine ⟨_,rfl,⟨(E.out.box 6 rfl),(E.out.box 2 rfl),trivial⟩,(fun hHeld=> ?_)⟩
      refine zG (a':= ?_) ?_ ?_;rotate_left;(· show Act.put _ (some 46) _=_;simp only [Act.put,s_A,s_0,s_1,zr];try rfl)
      refine zW rfl (zL rfl Tryz.func38 zq7 rfl #[.agg d12_.toArray,.int .i64 (m.f0%2),.string t] zq15 rfl zq10 ?_)
      with_reducible refine (writeS_t k (e0,e1) z (m.f0%2) t _ (E.out.mk_ 1 rfl) FW.out).mono ?_
      rintro e w48_ ⟨d49_,rfl,Md49_,hb⟩
      have q:=E.out.made4 O.out 2 rfl Md49_ hb;clear O E Md49_ hb;obtain ⟨n50_,m51_,Ld49_,Od49_,O,E⟩:=q
      refine ⟨_,rfl,⟨(E.out.box 7 rfl),(E.out.box 3 rfl),trivial⟩,(fun hHeld=> ?_)⟩
      refine zG (a':= ?_) ?_ ?_;rotate_left;(· show Act.put _ (some 48) _=_;simp only [Act.put,s_A,s_0,s_1,zr];try rfl)
      iterate 3 (refine zY (v:= ?_) (a':= ?_) rfl rfl (Or.inl ⟨by rfl,?_⟩) ?_ ?_;rotate_left;(· intro w';go_simp;with_reducible rfl);rotate_left;(· show Act.put _ (some _) _=_;simp only [Act.put,s_A,s_0,s_1,zr];try rfl))
      refine tre_l rfl (zC rfl zq15 37 _ _ rfl w11_.heap.size 0 d49_ [] [.slice none 0 0,.slice none 0 0] [] rfl rfl (E.out.box 1 rfl) zq6 (rfl) (by rw [Ld49_.out];rfl) (by rw [Ld49_.out];kernel_rfl) Od49_.out (fun W52_ hp hn=> ?_))
      replace E:=E.out.put2 1 hp hn zq8;clear hp hn
      (refine zY (v:= ?_) (a':= ?_) rfl rfl (Or.inl ⟨by rfl,?_⟩) ?_ ?_;rotate_left;(· intro w';go_simp;with_reducible rfl);rotate_left;(· show Act.put _ (some _) _=_;simp only [Act.put,s_A,s_0,s_1,zr];try rfl))
      refine zX ?_
      clear hHeld
      go_upto_region 10 with (fail)
      replace E:=zz E.out.drew
      refine zca zPa (S:=fun w'=>w'.heap[w11_.heap.size]?=some (.cells (([]++(d49_++[])):List Value).toArray 37 (0,0))∧w'.heap[w2_.heap.size]?=some (.cells (([]++(d3_++[])):List Value).toArray 40 (0,0))∧True) zq7 (fun _ _ _ _ h=>h) ⟨(E.out.box 1 rfl),(E.out.box 3 rfl),trivial⟩ (fun hHeld=> ?_)
      generalize hq:World.drew _=w53_ at hHeld ⊢;replace E:=E.out.to hq;clear hq
      refine zJ (a':= ?ax54_) rfl rfl zq15 37 _ rfl w11_.heap.size 0 [] d49_ [] _ rfl (fun w' hs=>hs.1) zq6 (rfl) Tryz.underlying37 rfl (by rw [Ld49_.out];kernel_rfl) ?px54_ ?kx54_
      case px54_=>(show Act.put _ (some _) _=_;simp only [Act.put,s_A,s_0,s_1,zr];try rfl)
      refine zJ (a':= ?ax55_) rfl rfl zq15 40 _ rfl w2_.heap.size 0 [] d3_ [] _ rfl (fun w' hs=>hs.2.1) zq6 (rfl) Tryz.underlying40 rfl zq31 ?px55_ ?kx55_
      case px55_=>(show Act.put _ (some _) _=_;simp only [Act.put,s_A,s_0,s_1,zr];try rfl)
      refine zW rfl (zL rfl Tryz.func33 zq7 rfl #[.agg d49_.toArray] zq15 rfl zq10 ?_)
      with_reducible refine (zIa k z.1 z.2 g0 g1 _ (E.out.mk_ 0 rfl) FS2.out).mono ?_
      rintro e w56_ ⟨d57_,rfl,Md57_,hb⟩
      have q:=E.out.made4 O.out 2 rfl Md57_ hb;clear O E Md57_ hb;obtain ⟨n58_,m59_,Ld57_,Od57_,O,E⟩:=q
      refine ⟨_,rfl,⟨(E.out.box 2 rfl),(E.out.box 4 rfl),trivial⟩,(fun hHeld=> ?_)⟩
      refine zG (a':= ?_) ?_ ?_;rotate_left;(· show Act.put _ (some 61) _=_;simp only [Act.put,s_A,s_0,s_1,zr];try rfl)
      refine zW rfl (zC rfl zq15 37 _ _ rfl (w.heap.size+1) 0 d57_ [] [.slice none 0 0,.slice none 0 0] [] rfl rfl (E.out.box 7 rfl) zq6 (rfl) (by rw [Ld57_.out];rfl) (by rw [Ld57_.out];kernel_rfl) Od57_.out (fun W60_ hp hn=> ?_))
      replace E:=E.out.put2 7 hp hn zq8;clear hp hn
      refine ⟨⟨(E.out.box 2 rfl),(E.out.box 4 rfl),trivial⟩,(fun hHeld=> ?_)⟩
      refine zW rfl (zC rfl zq15 40 _ _ rfl (w.heap.size+1+1) 0 d3_ [] Z40 [] rfl rfl (E.out.box 6 rfl) zq6 (rfl) zq44 zq31 Od3_.out (fun W61_ hp hn=> ?_))
      replace E:=E.out.put2 6 hp hn zq8;clear hp hn
      refine ⟨⟨(E.out.box 2 rfl),(E.out.box 4 rfl),trivial⟩,(fun hHeld=> ?_)⟩
      (refine zY (v:= ?_) (a':= ?_) rfl rfl (Or.inl ⟨by rfl,?_⟩) ?_ ?_;rotate_left;(· intro w';go_simp;with_reducible rfl);rotate_left;(· show Act.put _ (some _) _=_;simp only [Act.put,s_A,s_0,s_1,zr];try rfl))
      refine zX ?_
      clear hHeld
      go_wp2_with fail
      have BX:=zz (show _=some (Obj.cells (d57_:List Value).toArray 37 (0,0)) from by first|exact (E.out.box 7 rfl)|simpa only [aA,aN,aL] using (E.out.box 7 rfl))
      have BX2:=zz (show _=some (Obj.cells (d3_:List Value).toArray 40 (0,0)) from by first|exact (E.out.box 6 rfl)|simpa only [aA,aN,aL] using (E.out.box 6 rfl))
      refine bodyPost_ret (zM (rs:=[.cell 2 37,.cell 3 40,.tmp 4]) rfl zq16 (.cell (w.heap.size+1) 37 _ _ _ rfl BX.out Tryz.underlying37 rfl (by rw [List.size_toArray,show (d57_:List Value).length=2 from Ld57_.out];kernel_rfl) (.cell (w.heap.size+1+1) 40 _ _ _ rfl BX2.out Tryz.underlying40 rfl zq34 (.tmp .nil)))) rfl ?_
      exact ⟨_,_,rfl,⟨n58_,m59_,n4_,m5_,zq22,(E.out.made 0 rfl),(E.out.made 5 rfl)⟩,E.out.below⟩
  ·
    replace O:=zz (And.intro E.out.le O.out)
    replace E:=zz (E.out.alloc [.slice none 0 0,.slice none 0 0] 37 (g:=w8_.heap.size) rfl)
    refine ⟨⟨(E.out.box 5 rfl),(E.out.box 1 rfl),trivial⟩,(fun hHeld=> ?_)⟩
    refine zG (a':= ?_) ?_ ?_;rotate_left;(· show Act.put _ (some 9) _=_;simp only [Act.put,s_A,s_0,s_1,zr];try rfl)
    generalize (w8_.alloc (.cells [.slice none 0 0,.slice none 0 0].toArray 37))=w62_ at E hHeld ⊢
    refine zW rfl (zL rfl Tryz.func33 zq7 rfl #[.agg [.slice B0 l0.length d0,.slice B1 l1.length d1].toArray] zq15 rfl zq10 ?_)
    with_reducible refine (zIa k l0 l1 e0 e1 _ (zoa (E.out.K KW0.out) (E.out.K KW1.out)) FS.out).mono ?_
    rintro e w63_ ⟨d64_,rfl,Md64_,hb⟩
    have q:=E.out.made4 O.out 2 rfl Md64_ hb;clear O E Md64_ hb;obtain ⟨n65_,m66_,Ld64_,Od64_,O,E⟩:=q
    refine ⟨_,rfl,⟨(E.out.box 6 rfl),(E.out.box 2 rfl),trivial⟩,(fun hHeld=> ?_)⟩
    refine zG (a':= ?_) ?_ ?_;rotate_left;(· show Act.put _ (some 43) _=_;simp only [Act.put,s_A,s_0,s_1,zr];try rfl)
    refine zW rfl (zL rfl Tryz.func39 zq7 rfl #[.int .i64 m.f0] zq15 rfl zq10 ?_)
    with_reducible refine (pageS_c m.f0 _ FX.out).mono ?_
    rintro e w67_ ⟨rfl,hb⟩
    replace E:=zz (E.out.call hb);clear hb
    refine ⟨_,rfl,⟨(E.out.box 6 rfl),(E.out.box 2 rfl),trivial⟩,(fun hHeld=> ?_)⟩
    refine zG (a':= ?_) ?_ ?_;rotate_left;(· show Act.put _ (some 46) _=_;simp only [Act.put,s_A,s_0,s_1,zr];try rfl)
    refine zW rfl (zL rfl Tryz.func38 zq7 rfl #[.agg d64_.toArray,.int .i64 (m.f0%2),.string t] zq15 rfl zq10 ?_)
    with_reducible refine (writeS_t k (e0,e1) z (m.f0%2) t _ (E.out.mk_ 0 rfl) FW.out).mono ?_
    rintro e w68_ ⟨d69_,rfl,Md69_,hb⟩
    have q:=E.out.made4 O.out 2 rfl Md69_ hb;clear O E Md69_ hb;obtain ⟨n70_,m71_,Ld69_,Od69_,O,E⟩:=q
    refine ⟨_,rfl,⟨(E.out.box 7 rfl),(E.out.box 3 rfl),trivial⟩,(fun hHeld=> ?_)⟩
    refine zG (a':= ?_) ?_ ?_;rotate_left;(· show Act.put _ (some 48) _=_;simp only [Act.put,s_A,s_0,s_1,zr];try rfl)
    iterate 3 (refine zY (v:= ?_) (a':= ?_) rfl rfl (Or.inl ⟨by rfl,?_⟩) ?_ ?_;rotate_left;(· intro w';go_simp;with_reducible rfl);rotate_left;(· show Act.put _ (some _) _=_;simp only [Act.put,s_A,s_0,s_1,zr];try rfl))
    refine tre_l rfl (zC rfl zq15 37 _ _ rfl w8_.heap.size 0 d69_ [] [.slice none 0 0,.slice none 0 0] [] rfl rfl (E.out.box 2 rfl) zq6 (rfl) (by rw [Ld69_.out];rfl) (by rw [Ld69_.out];kernel_rfl) Od69_.out (fun W72_ hp hn=> ?_))
    replace E:=E.out.put2 2 hp hn zq8;clear hp hn
    (refine zY (v:= ?_) (a':= ?_) rfl rfl (Or.inl ⟨by rfl,?_⟩) ?_ ?_;rotate_left;(· intro w';go_simp;with_reducible rfl);rotate_left;(· show Act.put _ (some _) _=_;simp only [Act.put,s_A,s_0,s_1,zr];try rfl))
    refine zX ?_
    clear hHeld
    go_upto_region 10 with (fail)
    replace E:=zz E.out.drew
    refine zca zPa (S:=fun w'=>w'.heap[w8_.heap.size]?=some (.cells (([]++(d69_++[])):List Value).toArray 37 (0,0))∧w'.heap[w2_.heap.size]?=some (.cells (([]++(d3_++[])):List Value).toArray 40 (0,0))∧True) zq7 (fun _ _ _ _ h=>h) ⟨(E.out.box 2 rfl),(E.out.box 3 rfl),trivial⟩ (fun hHeld=> ?_)
    generalize hq:World.drew _=w73_ at hHeld ⊢;replace E:=E.out.to hq;clear hq
    refine zJ (a':= ?ax74_) rfl rfl zq15 37 _ rfl w8_.heap.size 0 [] d69_ [] _ rfl (fun w' hs=>hs.1) zq6 (rfl) Tryz.underlying37 rfl (by rw [Ld69_.out];kernel_rfl) ?px74_ ?kx74_
    case px74_=>(show Act.put _ (some _) _=_;simp only [Act.put,s_A,s_0,s_1,zr];try rfl)
    refine zJ (a':= ?ax75_) rfl rfl zq15 40 _ rfl w2_.heap.size 0 [] d3_ [] _ rfl (fun w' hs=>hs.2.1) zq6 (rfl) Tryz.underlying40 rfl zq31 ?px75_ ?kx75_
    case px75_=>(show Act.put _ (some _) _=_;simp only [Act.put,s_A,s_0,s_1,zr];try rfl)
    refine zW rfl (zL rfl Tryz.func33 zq7 rfl #[.agg d69_.toArray] zq15 rfl zq10 ?_)
    with_reducible refine (zIa k z.1 z.2 g0 g1 _ (E.out.mk_ 0 rfl) FS2.out).mono ?_
    rintro e w76_ ⟨d77_,rfl,Md77_,hb⟩
    have q:=E.out.made4 O.out 2 rfl Md77_ hb;clear O E Md77_ hb;obtain ⟨n78_,m79_,Ld77_,Od77_,O,E⟩:=q
    refine ⟨_,rfl,⟨(E.out.box 3 rfl),(E.out.box 4 rfl),trivial⟩,(fun hHeld=> ?_)⟩
    refine zG (a':= ?_) ?_ ?_;rotate_left;(· show Act.put _ (some 61) _=_;simp only [Act.put,s_A,s_0,s_1,zr];try rfl)
    refine zW rfl (zC rfl zq15 37 _ _ rfl (w.heap.size+1) 0 d77_ [] [.slice none 0 0,.slice none 0 0] [] rfl rfl (E.out.box 7 rfl) zq6 (rfl) (by rw [Ld77_.out];rfl) (by rw [Ld77_.out];kernel_rfl) Od77_.out (fun W80_ hp hn=> ?_))
    replace E:=E.out.put2 7 hp hn zq8;clear hp hn
    refine ⟨⟨(E.out.box 3 rfl),(E.out.box 4 rfl),trivial⟩,(fun hHeld=> ?_)⟩
    refine zW rfl (zC rfl zq15 40 _ _ rfl (w.heap.size+1+1) 0 d3_ [] Z40 [] rfl rfl (E.out.box 6 rfl) zq6 (rfl) zq44 zq31 Od3_.out (fun W81_ hp hn=> ?_))
    replace E:=E.out.put2 6 hp hn zq8;clear hp hn
    refine ⟨⟨(E.out.box 3 rfl),(E.out.box 4 rfl),trivial⟩,(fun hHeld=> ?_)⟩
    (refine zY (v:= ?_) (a':= ?_) rfl rfl (Or.inl ⟨by rfl,?_⟩) ?_ ?_;rotate_left;(· intro w';go_simp;with_reducible rfl);rotate_left;(· show Act.put _ (some _) _=_;simp only [Act.put,s_A,s_0,s_1,zr];try rfl))
    refine zX ?_
    clear hHeld
    go_wp2_with fail
    have BX:=zz (show _=some (Obj.cells (d77_:List Value).toArray 37 (0,0)) from by first|exact (E.out.box 7 rfl)|simpa only [aA,aN,aL] using (E.out.box 7 rfl))
    have BX2:=zz (show _=some (Obj.cells (d3_:List Value).toArray 40 (0,0)) from by first|exact (E.out.box 6 rfl)|simpa only [aA,aN,aL] using (E.out.box 6 rfl))
    refine bodyPost_ret (zM (rs:=[.cell 2 37,.cell 3 40,.tmp 4]) rfl zq16 (.cell (w.heap.size+1) 37 _ _ _ rfl BX.out Tryz.underlying37 rfl (by rw [List.size_toArray,show (d77_:List Value).length=2 from Ld77_.out];kernel_rfl) (.cell (w.heap.size+1+1) 40 _ _ _ rfl BX2.out Tryz.underlying40 rfl zq34 (.tmp .nil)))) rfl ?_
    exact ⟨_,_,rfl,⟨n78_,m79_,n4_,m5_,zq22,(E.out.made 0 rfl),(E.out.made 5 rfl)⟩,E.out.below⟩
end Go.Proofs.YtonhdiemjgdcnaaGreat.PFnExactGivePage
