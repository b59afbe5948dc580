import Derived.Test.YtonhdiemjgdcnaaGreatCW14
set_option maxHeartbeats 64000000
set_option maxRecDepth 100000
set_option linter.unusedVariables false
set_option linter.unusedSimpArgs false
namespace Go.Proofs
theorem zq125{P Q0:Prop}(q0:Q0)(h:Q0→P:=by intro q0;rw [List.size_toArray,show (d3:List Value).length=2 from q0];kernel_rfl):P:=h q0
end Go.Proofs
namespace Go.Proofs.YtonhdiemjgdcnaaGreat.PFnExactGivePage
open Go.RowKit Go.Proofs.YtonhdiemjgdcnaaGreatW.PrintWords Go.Proofs.YtonhdiemjgdcnaaGreatW.PrintLast Go.Proofs.YtonhdiemjgdcnaaGreatW.PrintMore
attribute [local go_sem] zma zla zwa zxa zba zca zoa zna
theorem metaTextI_c (k:Nat) (x:S40) (t:ByteArray) (ok:Bool) {cs:List Value} (w:World) (h:k40.K w x cs) (ft:∃(vt:Int→ByteArray) (sl:ByteArray→ByteArray),TxF k vt sl∧MTxt vt sl x t ok):Calls Tryz.prog 92 #[.agg cs.toArray] w fun e w'=>e= .returned (.tuple #[.string t,.bool ok])∧Below w.heap.size w w':=by
 obtain ⟨vt,sl,T,hm⟩:=ft
 exact zWa T x t ok w h hm
theorem idleI_d (y:S40) (l0:List ByteArray) (l1:List S110) (l2:Int) (l3 l4 l5:List Int) (n:Int) (b:Bool) {cs:List Value} (w:World) (h:kTxn.K w (y,(l0,l1,l2,l3,l4,l5),n) cs) (hb:zRb (y,(l0,l1,l2,l3,l4,l5),n)=b):Calls Tryz.prog 42 #[.agg cs.toArray] w fun e w'=>e= .returned (.bool b)∧Below w.heap.size w w':=by
 rw [←hb]
 exact idleI_c y l0 l1 l2 l3 l4 l5 n w h
def metaWritten_t_T2:Bool×List (List Nat×List Nat):=(true,[([],[]),([0],[0]),([1],[1]),([2],[2]),([],[]),([4],[4]),([5,3],[5]),([],[]),([3,6,7,6],[3,6,7]),([8],[8]),([8],[8]),([9,8,0,1,2,3,4,5,6,7,8,9,10],[9]),([10,11,0,1,2,3,4,5,6,7,8,9,10,11],[10])])
def metaWritten_t_B2:List Nat:=[0,1,3,7,0,16,63,0,255,511,511,2047,4095]
theorem metaWritten_t_ok2_0:regT (zFa Tryz.f47 2) metaWritten_t_T2 metaWritten_t_B2 [] (.p 0 (.p 1 (.t 2 (.p 4 (.t 5 (.p 7 (.e 3 (.e 6 (.e 8 (.p 9 (.p 10 (.e 11 (.p 12 .d)))))))))))))=true:=zq13
theorem metaWritten_t (k:Nat) (y:S40) (l0:List ByteArray) (l1:List S110) (l2:Int) (l3 l4 l5:List Int) (n:Int) (x:S40) (t:ByteArray) (ok:Bool) (e0:List ByteArray) (e1:List S110) (z:(List ByteArray×List S110)) {cs cx:List Value} (w:World) (h:kTxn.K w (y,(l0,l1,l2,l3,l4,l5),n) cs) (h2:k40.K w x cx) (ft:∃(vt:Int→ByteArray) (sl:ByteArray→ByteArray),TxF k vt sl∧MTxt vt sl x t ok) (fs:impl_SyncDisk.f k l0 l1=some (e0,e1)) (fx:0≤x.f0∧x.f0≤100000) (fw:impl_WritePage.f e0 e1 (x.f0%2) t=some (z.1,z.2,true)):
  Calls Tryz.prog 47 #[.agg cs.toArray,.agg cx.toArray] w fun e w'=>∃ds:List Value,e= .returned (.tuple #[.agg ds.toArray,.bool true])∧kDisk.M w' w.heap.size (Fr w w') z ds∧Below w.heap.size w w':=by
 have KS0:=h
 obtain ⟨cM,_,rfl,hM,cW_,cI,rfl,hW_,hI⟩:=h
 obtain rfl:cI=[.int .i64 n]:=hI
 obtain ⟨u0,_,rfl,hU0,u1,cW2,rfl,hU1,hW2⟩:=hW_
 have hV0:=hU0
 have hV1:=hU1
 obtain ⟨B0,d0,rfl,-,-⟩:=hU0
 obtain ⟨B1,d1,rfl,-,-⟩:=hU1
 obtain ⟨cs,hcs⟩:∃cs,cs=cM++([.slice B0 l0.length d0]++([.slice B1 l1.length d1]++(cW2++[.int .i64 n]))):=⟨_,rfl⟩
 simp only [List.append_assoc] at KS0 ⊢
 rw [←hcs] at KS0 ⊢
 have Ecs:=zz hcs
 have KW0:=zz (show (Own.srow 9 Kd.string).K w l0 [.slice B0 l0.length d0] from hV0);have KW1:=zz (show (Own.srow 110 k110).K w l1 [.slice B1 l1.length d1] from hV1)
 have LM:=zz (show cM.length=4 from Kd.K_len _ hM)
 have FT:=zz ft;clear ft
 have FS:=zz fs;clear fs
 have FX:=zz fx;clear fx
 have FW:=zz fw;clear fw
 clear KS0 hM hV0 hV1 hW2 hcs
 have Kx0:=h2
 obtain ⟨Ax,kx,rfl,-,-⟩:=zEa h2
 obtain ⟨cx,hcx⟩:∃cs:List Value,cs=[.int .i64 x.f0,.int .i64 x.f1,.int .i64 x.f2,.slice Ax x.f3.length kx]:=⟨_,rfl⟩
 rw [←hcx] at Kx0 ⊢
 have Ex:=zz (show cx=([.int .i64 x.f0]:List Value)++(([.int .i64 x.f1]:List Value)++(([.int .i64 x.f2]:List Value)++([.slice Ax x.f3.length kx]:List Value))) from hcx);have Kx:=zz Kx0;have Lx:=zz (show cx.length=4 from Kd.K_len _ Kx0);clear hcx Kx0
 have O:=zz (z3a w.heap.size)
 have E:=zz (Env.start w)
 go_enter Tryz.func47,Tryz.ntmps47
 go_wp2_with (first|((with_reducible refine zd (N:=9) rfl ?_);replace O:=zz (And.intro E.1.le O.1);replace E:=zz (E.1.alloc cs 46 (g:=w.heap.size) rfl);replace E:=zz (E.1.alloc cx 40 (g:=(w.heap.size+1)) zq38);replace E:=zz (E.1.alloc [.slice none 0 0,.slice none 0 0] 37 (g:=(w.heap.size+1+1)) zq38);refine zf rfl 40 _ rfl (w.heap.size+1) 0 [] cx [] _ rfl (E.1.box 1 rfl) zq6 (rfl) Tryz.underlying40 rfl (by rw [Lx.1];kernel_rfl) ?_))
 ((with_reducible refine (metaTextI_c k x t ok _ (E.1.K Kx.1) FT.1).mono ?_);rintro e w1_ ⟨rfl,hb⟩)
 replace E:=zz (E.1.call hb);clear hb
 go_upto_region 2 with (fail)
 replace E:=zz E.1.drew
 refine zfa metaWritten_t_ok2_0 (S:=fun w'=>w'.heap[w.heap.size]?=some (.cells (cs:List Value).toArray 46 (0,0))∧w'.heap[(w.heap.size+1)]?=some (.cells (cx:List Value).toArray 40 (0,0))∧True) zq13 (fun _ _ _ _ h=>h) ⟨(E.1.box 2 rfl),(E.1.box 1 rfl),trivial⟩ (fun hHeld=> ?_)
 generalize hq:World.drew _=w2_ at hHeld ⊢;replace E:=E.1.to hq;clear hq
 iterate 2 (refine zM (v:= ?_) (a':= ?_) rfl rfl (Or.inl ⟨zq22,zq12⟩) zq2 ?_)
 refine zB (a':= ?_) rfl rfl zq22 37 _ rfl w.heap.size 4 cM [.slice B0 l0.length d0,.slice B1 l1.length d1] (cW2++[.int .i64 n]) _ rfl (fun w' hs=>hs.1) zq19 (LM.1) Tryz.underlying37 rfl zq13 zq2 ?_
 (refine zM (v:= ?_) (a':= ?_) rfl rfl (Or.inl ⟨zq22,zq12⟩) zq2 ?_)
 refine zL (a':= ?_) rfl rfl zq22 3 _ rfl (w.heap.size+1) 0 [] (.int .i64 x.f0) ([.int .i64 x.f1]++([.int .i64 x.f2]++[.slice Ax x.f3.length kx])) _ rfl (fun w' hs=>hs.2.1) (by rw [Ex.1];first|done|rfl|(simp only [aA,aN,aL];first|done|rfl)) (rfl) Tryz.underlying3 rfl zq2 ?_
 (refine zM (v:= ?_) (a':= ?_) rfl rfl (Or.inl ⟨zq22,zq12⟩) zq2 ?_)
 refine zS rfl (zC rfl Tryz.func43 zq13 rfl #[.agg [.slice B0 l0.length d0,.slice B1 l1.length d1].toArray] zq22 rfl zq14 ?_)
 with_reducible refine (zbc k l0 l1 e0 e1 _ (zsa (E.1.K KW0.1) (E.1.K KW1.1)) FS.1).mono ?_
 rintro e w5_ ⟨d2,rfl,M0,hb⟩
 have q:=E.1.made4 O.1 2 rfl M0 hb;clear O E M0 hb;obtain ⟨n7_,m8_,Ld6_,Od6_,O,E⟩:=q
 refine ⟨_,rfl,⟨(E.1.box 3 rfl),(E.1.box 2 rfl),trivial⟩,(fun hHeld=> ?_)⟩
 refine zw (a':= ?_) zq2 ?_
 refine zS rfl (zC rfl Tryz.func96 zq13 rfl #[.int .i64 x.f0] zq22 rfl zq14 ?_)
 with_reducible refine (pageI_c x.f0 _ FX.1).mono ?_
 rintro e w9_ ⟨rfl,hb⟩
 replace E:=zz (E.1.call hb);clear hb
 refine ⟨_,rfl,⟨(E.1.box 3 rfl),(E.1.box 2 rfl),trivial⟩,(fun hHeld=> ?_)⟩
 refine zw (a':= ?_) zq2 ?_
 refine zS rfl (zC rfl Tryz.func95 zq13 rfl #[.agg d2.toArray,.int .i64 (x.f0%2),.string t] zq22 rfl zq14 ?_)
 with_reducible refine (writeI_t k (e0,e1) z (x.f0%2) t _ (E.1.mk_ 0 rfl) FW.1).mono ?_
 rintro e w10_ ⟨d3,rfl,M1,hb⟩
 have q:=E.1.made4 O.1 2 rfl M1 hb;clear O E M1 hb;obtain ⟨n12_,m13_,L0,Q0,O,E⟩:=q
 refine ⟨_,rfl,⟨(E.1.box 4 rfl),(E.1.box 3 rfl),trivial⟩,(fun hHeld=> ?_)⟩
 refine zw (a':= ?_) zq2 ?_
 iterate 2 (refine zM (v:= ?_) (a':= ?_) rfl rfl (Or.inl ⟨zq22,zq12⟩) zq2 ?_)
 refine zS rfl (zA rfl zq22 37 _ _ rfl (w.heap.size+1+1) 0 d3 [] [.slice none 0 0,.slice none 0 0] [] rfl rfl (E.1.box 2 rfl) zq6 (rfl) (zq40 L0.1) (zq24 L0.1) Q0.1 (fun W14_ hp hn=> ?_))
 replace E:=E.1.put2 2 hp hn zq7;clear hp hn
 refine ⟨⟨(E.1.box 4 rfl),(E.1.box 3 rfl),trivial⟩,(fun hHeld=> ?_)⟩
 (refine zM (v:= ?_) (a':= ?_) rfl rfl (Or.inl ⟨zq22,zq12⟩) zq2 ?_)
 refine zX ?_
 clear hHeld
 go_wp2_with fail
 have BX:=zz (show _=some (Obj.cells (d3:List Value).toArray 37 (0,0)) from by first|exact (E.1.box 2 rfl)|simpa only [aA,aN,aL] using (E.1.box 2 rfl))
 refine bodyPost_ret (zG (rs:=[.cell 4 37,.tmp 5]) rfl zq38 (.cell (w.heap.size+1+1) 37 _ _ _ rfl BX.1 Tryz.underlying37 rfl (zq125 L0.1) (.tmp .nil))) rfl ?_
 exact ⟨_,rfl,(zGb (d:=kDisk) (E.1.made 0 rfl) (z3a _)),E.1.below⟩
def metaWritten_f_T2:Bool×List (List Nat×List Nat):=(true,[([],[]),([0],[0]),([1],[1]),([2],[2]),([],[]),([4],[4]),([5,3],[5]),([],[]),([3,6,7,6],[3,6,7]),([8],[8]),([8],[8]),([9,8,0,1,2,3,4,5,6,7,8,9,10],[9]),([10,11,0,1,2,3,4,5,6,7,8,9,10,11],[10])])
def metaWritten_f_B2:List Nat:=[0,1,3,7,0,16,63,0,255,511,511,2047,4095]
theorem metaWritten_f_ok2_0:regT (zFa Tryz.f47 2) metaWritten_f_T2 metaWritten_f_B2 [] (.p 0 (.p 1 (.t 2 (.p 4 (.t 5 (.p 7 (.e 3 (.e 6 (.e 8 (.p 9 (.p 10 (.e 11 (.p 12 .d)))))))))))))=true:=zq13
theorem metaWritten_f (k:Nat) (y:S40) (l0:List ByteArray) (l1:List S110) (l2:Int) (l3 l4 l5:List Int) (n:Int) (x:S40) (t:ByteArray) (ok:Bool) (e0:List ByteArray) (e1:List S110) {cs cx:List Value} (w:World) (h:kTxn.K w (y,(l0,l1,l2,l3,l4,l5),n) cs) (h2:k40.K w x cx) (ft:∃(vt:Int→ByteArray) (sl:ByteArray→ByteArray),TxF k vt sl∧MTxt vt sl x t ok) (fs:impl_SyncDisk.f k l0 l1=some (e0,e1)) (fx:0≤x.f0∧x.f0≤100000) (fe:e0.length≤2000000∧e1.length≤2000000) (fd:impl_DiskOk.f e0 e1=some false):
  Calls Tryz.prog 47 #[.agg cs.toArray,.agg cx.toArray] w fun e w'=>∃ds:List Value,e= .returned (.tuple #[.agg ds.toArray,.bool false])∧kDisk.M w' w.heap.size (Fr w w') (e0,e1) ds∧Below w.heap.size w w':=by
 have KS0:=h
 obtain ⟨cM,_,rfl,hM,cW_,cI,rfl,hW_,hI⟩:=h
 obtain rfl:cI=[.int .i64 n]:=hI
 obtain ⟨u0,_,rfl,hU0,u1,cW2,rfl,hU1,hW2⟩:=hW_
 have hV0:=hU0
 have hV1:=hU1
 obtain ⟨B0,d0,rfl,-,-⟩:=hU0
 obtain ⟨B1,d1,rfl,-,-⟩:=hU1
 obtain ⟨cs,hcs⟩:∃cs,cs=cM++([.slice B0 l0.length d0]++([.slice B1 l1.length d1]++(cW2++[.int .i64 n]))):=⟨_,rfl⟩
 simp only [List.append_assoc] at KS0 ⊢
 rw [←hcs] at KS0 ⊢
 have Ecs:=zz hcs
 have KW0:=zz (show (Own.srow 9 Kd.string).K w l0 [.slice B0 l0.length d0] from hV0);have KW1:=zz (show (Own.srow 110 k110).K w l1 [.slice B1 l1.length d1] from hV1)
 have LM:=zz (show cM.length=4 from Kd.K_len _ hM)
 have FT:=zz ft;clear ft
 have FS:=zz fs;clear fs
 have FX:=zz fx;clear fx
 have FE:=zz fe;clear fe
 have FD:=zz fd;clear fd
 clear KS0 hM hV0 hV1 hW2 hcs
 have Kx0:=h2
 obtain ⟨Ax,kx,rfl,-,-⟩:=zEa h2
 obtain ⟨cx,hcx⟩:∃cs:List Value,cs=[.int .i64 x.f0,.int .i64 x.f1,.int .i64 x.f2,.slice Ax x.f3.length kx]:=⟨_,rfl⟩
 rw [←hcx] at Kx0 ⊢
 have Ex:=zz (show cx=([.int .i64 x.f0]:List Value)++(([.int .i64 x.f1]:List Value)++(([.int .i64 x.f2]:List Value)++([.slice Ax x.f3.length kx]:List Value))) from hcx);have Kx:=zz Kx0;have Lx:=zz (show cx.length=4 from Kd.K_len _ Kx0);clear hcx Kx0
 have O:=zz (z3a w.heap.size)
 have E:=zz (Env.start w)
 go_enter Tryz.func47,Tryz.ntmps47
 go_wp2_with (first|((with_reducible refine zd (N:=9) rfl ?_);replace O:=zz (And.intro E.1.le O.1);replace E:=zz (E.1.alloc cs 46 (g:=w.heap.size) rfl);replace E:=zz (E.1.alloc cx 40 (g:=(w.heap.size+1)) zq38);replace E:=zz (E.1.alloc [.slice none 0 0,.slice none 0 0] 37 (g:=(w.heap.size+1+1)) zq38);refine zf rfl 40 _ rfl (w.heap.size+1) 0 [] cx [] _ rfl (E.1.box 1 rfl) zq6 (rfl) Tryz.underlying40 rfl (by rw [Lx.1];kernel_rfl) ?_))
 ((with_reducible refine (metaTextI_c k x t ok _ (E.1.K Kx.1) FT.1).mono ?_);rintro e w1_ ⟨rfl,hb⟩)
 replace E:=zz (E.1.call hb);clear hb
 go_upto_region 2 with (fail)
 replace E:=zz E.1.drew
 refine zfa metaWritten_f_ok2_0 (S:=fun w'=>w'.heap[w.heap.size]?=some (.cells (cs:List Value).toArray 46 (0,0))∧w'.heap[(w.heap.size+1)]?=some (.cells (cx:List Value).toArray 40 (0,0))∧True) zq13 (fun _ _ _ _ h=>h) ⟨(E.1.box 2 rfl),(E.1.box 1 rfl),trivial⟩ (fun hHeld=> ?_)
 generalize hq:World.drew _=w2_ at hHeld ⊢;replace E:=E.1.to hq;clear hq
 iterate 2 (refine zM (v:= ?_) (a':= ?_) rfl rfl (Or.inl ⟨zq22,zq12⟩) zq2 ?_)
 refine zB (a':= ?_) rfl rfl zq22 37 _ rfl w.heap.size 4 cM [.slice B0 l0.length d0,.slice B1 l1.length d1] (cW2++[.int .i64 n]) _ rfl (fun w' hs=>hs.1) zq19 (LM.1) Tryz.underlying37 rfl zq13 zq2 ?_
 (refine zM (v:= ?_) (a':= ?_) rfl rfl (Or.inl ⟨zq22,zq12⟩) zq2 ?_)
 refine zL (a':= ?_) rfl rfl zq22 3 _ rfl (w.heap.size+1) 0 [] (.int .i64 x.f0) ([.int .i64 x.f1]++([.int .i64 x.f2]++[.slice Ax x.f3.length kx])) _ rfl (fun w' hs=>hs.2.1) (by rw [Ex.1];first|done|rfl|(simp only [aA,aN,aL];first|done|rfl)) (rfl) Tryz.underlying3 rfl zq2 ?_
 (refine zM (v:= ?_) (a':= ?_) rfl rfl (Or.inl ⟨zq22,zq12⟩) zq2 ?_)
 refine zS rfl (zC rfl Tryz.func43 zq13 rfl #[.agg [.slice B0 l0.length d0,.slice B1 l1.length d1].toArray] zq22 rfl zq14 ?_)
 with_reducible refine (zbc k l0 l1 e0 e1 _ (zsa (E.1.K KW0.1) (E.1.K KW1.1)) FS.1).mono ?_
 rintro e w5_ ⟨d2,rfl,M0,hb⟩
 have q:=E.1.made4 O.1 2 rfl M0 hb;clear O E M0 hb;obtain ⟨n7_,m8_,Ld6_,Od6_,O,E⟩:=q
 refine ⟨_,rfl,⟨(E.1.box 3 rfl),(E.1.box 2 rfl),trivial⟩,(fun hHeld=> ?_)⟩
 refine zw (a':= ?_) zq2 ?_
 refine zS rfl (zC rfl Tryz.func96 zq13 rfl #[.int .i64 x.f0] zq22 rfl zq14 ?_)
 with_reducible refine (pageI_c x.f0 _ FX.1).mono ?_
 rintro e w9_ ⟨rfl,hb⟩
 replace E:=zz (E.1.call hb);clear hb
 refine ⟨_,rfl,⟨(E.1.box 3 rfl),(E.1.box 2 rfl),trivial⟩,(fun hHeld=> ?_)⟩
 refine zw (a':= ?_) zq2 ?_
 refine zS rfl (zC rfl Tryz.func95 zq13 rfl #[.agg d2.toArray,.int .i64 (x.f0%2),.string t] zq22 rfl zq14 ?_)
 with_reducible refine (writeI_no k e0 e1 (x.f0%2) t _ (E.1.mk_ 0 rfl) FE.1 FD.1).mono ?_
 rintro e w10_ ⟨d3,rfl,M1,hb⟩
 have q:=E.1.made4 O.1 2 rfl M1 hb;clear O E M1 hb;obtain ⟨n12_,m13_,L0,Q0,O,E⟩:=q
 refine ⟨_,rfl,⟨(E.1.box 4 rfl),(E.1.box 3 rfl),trivial⟩,(fun hHeld=> ?_)⟩
 refine zw (a':= ?_) zq2 ?_
 iterate 2 (refine zM (v:= ?_) (a':= ?_) rfl rfl (Or.inl ⟨zq22,zq12⟩) zq2 ?_)
 refine zS rfl (zA rfl zq22 37 _ _ rfl (w.heap.size+1+1) 0 d3 [] [.slice none 0 0,.slice none 0 0] [] rfl rfl (E.1.box 2 rfl) zq6 (rfl) (zq40 L0.1) (zq24 L0.1) Q0.1 (fun W14_ hp hn=> ?_))
 replace E:=E.1.put2 2 hp hn zq7;clear hp hn
 refine ⟨⟨(E.1.box 4 rfl),(E.1.box 3 rfl),trivial⟩,(fun hHeld=> ?_)⟩
 (refine zM (v:= ?_) (a':= ?_) rfl rfl (Or.inl ⟨zq22,zq12⟩) zq2 ?_)
 refine zX ?_
 clear hHeld
 go_wp2_with fail
 have BX:=zz (show _=some (Obj.cells (d3:List Value).toArray 37 (0,0)) from by first|exact (E.1.box 2 rfl)|simpa only [aA,aN,aL] using (E.1.box 2 rfl))
 refine bodyPost_ret (zG (rs:=[.cell 4 37,.tmp 5]) rfl zq38 (.cell (w.heap.size+1+1) 37 _ _ _ rfl BX.1 Tryz.underlying37 rfl (zq125 L0.1) (.tmp .nil))) rfl ?_
 exact ⟨_,rfl,(zGb (d:=kDisk) (E.1.made 0 rfl) (z3a _)),E.1.below⟩
def commitI_A_T2:Bool×List (List Nat×List Nat):=(true,[([],[]),([0],[0]),([1],[1]),([2],[2]),([],[]),([4],[4]),([5,3],[5]),([3,6,0,1,2,3],[3]),([6,7,0,1,2,3,4,5,6,7],[6]),([8,0,1,2,3,4,5,6,7,8],[])])
def commitI_A_B2:List Nat:=[0,1,3,7,0,16,63,127,255,511]
theorem commitI_A_ok2_0:regT (zFa Tryz.f9 2) commitI_A_T2 commitI_A_B2 [] (.p 0 (.p 1 (.t 2 (.p 4 (.t 5 (.e 3 (.e 6 (.e 7 (.e 8 (.p 9 .d))))))))))=true:=zq13
theorem commitI_A (k:Nat) (y:S40) (l0:List ByteArray) (l1:List S110) (l2:Int) (l3 l4 l5:List Int) (n:Int) (e0:List ByteArray) (e1:List S110) {cs:List Value} (w:World) (h:kTxn.K w (y,(l0,l1,l2,l3,l4,l5),n) cs) (fi:zRb (y,(l0,l1,l2,l3,l4,l5),n)=true) (f1:impl_cloneMeta.f k y.f0 y.f1 y.f2 y.f3=some (y.f0,y.f1,y.f2,y.f3)) (fs:impl_SyncDisk.f k l0 l1=some (e0,e1)):
  Calls Tryz.prog 9 #[.agg cs.toArray] w fun e w'=>∃ds es:List Value,e= .returned (.tuple #[.agg ds.toArray,.agg es.toArray,.bool true])∧Two w w' kDisk (e0,e1) ds k40 y es∧Below w.heap.size w w':=by
 have KS0:=h
 obtain ⟨cM,_,rfl,hM,cW_,cI,rfl,hW_,hI⟩:=h
 obtain rfl:cI=[.int .i64 n]:=hI
 obtain ⟨u0,_,rfl,hU0,u1,cW2,rfl,hU1,hW2⟩:=hW_
 have hV0:=hU0
 have hV1:=hU1
 obtain ⟨B0,d0,rfl,-,-⟩:=hU0
 obtain ⟨B1,d1,rfl,-,-⟩:=hU1
 obtain ⟨cs,hcs⟩:∃cs,cs=cM++([.slice B0 l0.length d0]++([.slice B1 l1.length d1]++(cW2++[.int .i64 n]))):=⟨_,rfl⟩
 simp only [List.append_assoc] at KS0 ⊢
 rw [←hcs] at KS0 ⊢
 have Ecs:=zz hcs
 have KS:=zz KS0
 have KM:=zz hM;have KW0:=zz (show (Own.srow 9 Kd.string).K w l0 [.slice B0 l0.length d0] from hV0);have KW1:=zz (show (Own.srow 110 k110).K w l1 [.slice B1 l1.length d1] from hV1)
 have LM:=zz (show cM.length=4 from Kd.K_len _ hM);have Lcs:=zz (show cs.length=11 from Kd.K_len _ KS0)
 have FI:=zz fi;clear fi
 have F1:=zz f1;clear f1
 have FS:=zz fs;clear fs
 clear KS0 hM hV0 hV1 hW2 hcs
 have O:=zz (z3a w.heap.size)
 have E:=zz (Env.start w)
 go_enter Tryz.func9,Tryz.ntmps9
 go_wp2_with (first|((with_reducible refine zd (N:=8) rfl ?_);replace O:=zz (And.intro E.1.le O.1);replace E:=zz (E.1.alloc cs 46 (g:=w.heap.size) rfl);replace E:=zz (E.1.alloc [.slice none 0 0,.slice none 0 0] 37 (g:=(w.heap.size+1)) zq38);replace E:=zz (E.1.alloc Z40 40 (g:=(w.heap.size+1+1)) zq38);refine zf rfl 46 _ rfl w.heap.size 0 [] cs [] _ rfl (E.1.box 2 rfl) zq6 (rfl) Tryz.underlying46 rfl zq59 ?_))
 ((with_reducible refine (idleI_d y l0 l1 l2 l3 l4 l5 n true _ (E.1.K KS.1) FI.1).mono ?_);rintro e w1_ ⟨rfl,hb⟩)
 replace E:=zz (E.1.call hb);clear hb
 go_upto_region 2 with (fail)
 replace E:=zz E.1.drew
 refine zfa commitI_A_ok2_0 (S:=fun w'=>w'.heap[w.heap.size]?=some (.cells (cs:List Value).toArray 46 (0,0))∧True) zq13 (fun _ _ _ _ h=>h) ⟨(E.1.box 2 rfl),trivial⟩ (fun hHeld=> ?_)
 generalize hq:World.drew _=w2_ at hHeld ⊢;replace E:=E.1.to hq;clear hq
 iterate 2 (refine zM (v:= ?_) (a':= ?_) rfl rfl (Or.inl ⟨zq22,zq12⟩) zq2 ?_)
 refine zB (a':= ?_) rfl rfl zq22 37 _ rfl w.heap.size 4 cM [.slice B0 l0.length d0,.slice B1 l1.length d1] (cW2++[.int .i64 n]) _ rfl (fun w' hs=>hs.1) zq19 (LM.1) Tryz.underlying37 rfl zq13 zq2 ?_
 (refine zM (v:= ?_) (a':= ?_) rfl rfl (Or.inl ⟨zq22,zq12⟩) zq2 ?_)
 refine zB (a':= ?_) rfl rfl zq22 40 _ rfl w.heap.size 0 [] cM ([.slice B0 l0.length d0]++([.slice B1 l1.length d1]++(cW2++[.int .i64 n]))) _ rfl (fun w' hs=>hs.1) zq19 (rfl) Tryz.underlying40 rfl zq89 zq2 ?_
 refine zS rfl (zC rfl Tryz.func43 zq13 rfl #[.agg [.slice B0 l0.length d0,.slice B1 l1.length d1].toArray] zq22 rfl zq14 ?_)
 with_reducible refine (zbc k l0 l1 e0 e1 _ (zsa (E.1.K KW0.1) (E.1.K KW1.1)) FS.1).mono ?_
 rintro e w5_ ⟨d2,rfl,M0,hb⟩
 have q:=E.1.made4 O.1 2 rfl M0 hb;clear O E M0 hb;obtain ⟨n0,m10,L0,Q0,O,E⟩:=q
 refine ⟨_,rfl,⟨(E.1.box 3 rfl),trivial⟩,(fun hHeld=> ?_)⟩
 refine zw (a':= ?_) zq2 ?_
 refine zS rfl (zC rfl Tryz.func44 zq13 rfl #[.agg cM.toArray] zq22 rfl zq14 ?_)
 with_reducible refine (zdb k y y _ (E.1.K KM.1) F1.1).mono ?_
 rintro e w9_ ⟨d3,rfl,M1,hb⟩
 have q:=E.1.made4 O.1 4 rfl M1 hb;clear O E M1 hb;obtain ⟨n1,m11,L1,Q1,O,E⟩:=q
 refine ⟨_,rfl,⟨(E.1.box 4 rfl),trivial⟩,(fun hHeld=> ?_)⟩
 refine zw (a':= ?_) zq2 ?_
 refine zS rfl (zA rfl zq22 37 _ _ rfl (w.heap.size+1) 0 d2 [] [.slice none 0 0,.slice none 0 0] [] rfl rfl (E.1.box 3 rfl) zq6 (rfl) (zq40 L0.1) (zq24 L0.1) Q0.1 (fun W13_ hp hn=> ?_))
 replace E:=E.1.put2 3 hp hn zq7;clear hp hn
 refine ⟨⟨(E.1.box 4 rfl),trivial⟩,(fun hHeld=> ?_)⟩
 refine zS rfl (zA rfl zq22 40 _ _ rfl (w.heap.size+1+1) 0 d3 [] Z40 [] rfl rfl (E.1.box 2 rfl) zq6 (rfl) (zq40 L1.1) (zq24 L1.1) Q1.1 (fun W14_ hp hn=> ?_))
 replace E:=E.1.put2 2 hp hn zq7;clear hp hn
 refine ⟨⟨(E.1.box 4 rfl),trivial⟩,(fun hHeld=> ?_)⟩
 (refine zM (v:= ?_) (a':= ?_) rfl rfl (Or.inl ⟨zq22,zq12⟩) zq2 ?_)
 refine zX ?_
 clear hHeld
 go_wp2_with fail
 have BX:=zz (show _=some (Obj.cells (d2:List Value).toArray 37 (0,0)) from by first|exact (E.1.box 3 rfl)|simpa only [aA,aN,aL] using (E.1.box 3 rfl))
 have BX2:=zz (show _=some (Obj.cells (d3:List Value).toArray 40 (0,0)) from by first|exact (E.1.box 2 rfl)|simpa only [aA,aN,aL] using (E.1.box 2 rfl))
 refine bodyPost_ret (zG (rs:=[.cell 2 37,.cell 3 40,.tmp 4]) rfl zq38 (.cell (w.heap.size+1) 37 _ _ _ rfl BX.1 Tryz.underlying37 rfl (zq124 L0.1) (.cell (w.heap.size+1+1) 40 _ _ _ rfl BX2.1 Tryz.underlying40 rfl (by rw [List.size_toArray,show (d3:List Value).length=4 from L1.1];kernel_rfl) (.tmp .nil)))) rfl ?_
 exact ⟨_,_,rfl,⟨n0,m10,n1,m11,zq67,(E.1.made 1 rfl),(E.1.made 0 rfl)⟩,E.1.below⟩
def commitI_B_T5:Bool×List (List Nat×List Nat):=(true,[([],[]),([0],[0]),([1],[1]),([2],[2]),([],[]),([4],[4]),([5,3],[5]),([3,6,0,1,2,3],[3]),([6,7,0,1,2,3,4,5,6,7],[6]),([8,0,1,2,3,4,5,6,7,8],[])])
def commitI_B_B5:List Nat:=[0,1,3,7,0,16,63,127,255,511]
theorem commitI_B_ok5_0:regT (zFa Tryz.f9 5) commitI_B_T5 commitI_B_B5 [] (.p 0 (.p 1 (.t 2 (.p 4 (.t 5 (.e 3 (.e 6 (.e 7 (.e 8 (.p 9 .d))))))))))=true:=zq13
theorem commitI_B (k:Nat) (y:S40) (l0:List ByteArray) (l1:List S110) (l2:Int) (l3 l4 l5:List Int) (n:Int) (m:S40) {cs:List Value} (w:World) (h:kTxn.K w (y,(l0,l1,l2,l3,l4,l5),n) cs) (fi:zRb (y,(l0,l1,l2,l3,l4,l5),n)=false) (f1:impl_cloneMeta.f k y.f0 y.f1 y.f2 y.f3=some (y.f0,y.f1,y.f2,y.f3)) (fl:l0.length≤2000000∧l1.length≤2000000) (fn:ImplNM k (y,(l0,l1,l2,l3,l4,l5),n) m false):
  Calls Tryz.prog 9 #[.agg cs.toArray] w fun e w'=>∃ds es:List Value,e= .returned (.tuple #[.agg ds.toArray,.agg es.toArray,.bool false])∧Two w w' kDisk (l0,l1) ds k40 y es∧Below w.heap.size w w':=by
 have KS0:=h
 obtain ⟨cM,_,rfl,hM,cW_,cI,rfl,hW_,hI⟩:=h
 obtain rfl:cI=[.int .i64 n]:=hI
 obtain ⟨u0,_,rfl,hU0,u1,cW2,rfl,hU1,hW2⟩:=hW_
 have hV0:=hU0
 have hV1:=hU1
 obtain ⟨B0,d0,rfl,-,-⟩:=hU0
 obtain ⟨B1,d1,rfl,-,-⟩:=hU1
 obtain ⟨cs,hcs⟩:∃cs,cs=cM++([.slice B0 l0.length d0]++([.slice B1 l1.length d1]++(cW2++[.int .i64 n]))):=⟨_,rfl⟩
 simp only [List.append_assoc] at KS0 ⊢
 rw [←hcs] at KS0 ⊢
 have Ecs:=zz hcs
 have KS:=zz KS0
 have KM:=zz hM;have KW0:=zz (show (Own.srow 9 Kd.string).K w l0 [.slice B0 l0.length d0] from hV0);have KW1:=zz (show (Own.srow 110 k110).K w l1 [.slice B1 l1.length d1] from hV1)
 have LM:=zz (show cM.length=4 from Kd.K_len _ hM);have Lcs:=zz (show cs.length=11 from Kd.K_len _ KS0)
 have FI:=zz fi;clear fi
 have F1:=zz f1;clear f1
 have FL:=zz fl;clear fl
 have FN:=zz fn;clear fn
 clear KS0 hM hV0 hV1 hW2 hcs
 have O:=zz (z3a w.heap.size)
 have E:=zz (Env.start w)
 go_enter Tryz.func9,Tryz.ntmps9
 go_wp2_with (first|((with_reducible refine zd (N:=8) rfl ?_);replace O:=zz (And.intro E.1.le O.1);replace E:=zz (E.1.alloc cs 46 (g:=w.heap.size) rfl);replace E:=zz (E.1.alloc [.slice none 0 0,.slice none 0 0] 37 (g:=(w.heap.size+1)) zq38);replace E:=zz (E.1.alloc Z40 40 (g:=(w.heap.size+1+1)) zq38);refine zf rfl 46 _ rfl w.heap.size 0 [] cs [] _ rfl (E.1.box 2 rfl) zq6 (rfl) Tryz.underlying46 rfl zq59 ?_))
 ((with_reducible refine (idleI_d y l0 l1 l2 l3 l4 l5 n false _ (E.1.K KS.1) FI.1).mono ?_);rintro e w1_ ⟨rfl,hb⟩)
 replace E:=zz (E.1.call hb);clear hb
 go_wp2_with (first|((with_reducible refine zd (N:=18) rfl ?_);refine zf rfl 46 _ rfl w.heap.size 0 [] cs [] _ rfl (E.1.box 2 rfl) zq6 (rfl) Tryz.underlying46 rfl zq59 ?_))
 ((with_reducible refine (implNM_c k (y,(l0,l1,l2,l3,l4,l5),n) m false _ (E.1.K KS.1) FN.1).mono ?_);rintro e w5 ⟨d2,rfl,M0,hb⟩)
 have q:=E.1.made4 O.1 4 rfl M0 hb;clear O E M0 hb;obtain ⟨n4_,m5_,L0,Q0,O,E⟩:=q
 go_upto_region 5 with (first|((with_reducible refine zm (t:=40) (p:=5) rfl ?_);replace O:=zz (And.intro E.1.le O.1);replace E:=zz (E.1.alloc Z40 40 (g:=w5.heap.size) rfl);refine zn rfl 40 _ _ rfl rfl w5.heap.size 0 d2 [] Z40 [] rfl rfl (E.1.box 0 rfl) zq6 (rfl) (zq40 L0.1) (zq24 L0.1) Q0.1 ?_;intro W6_ hp hn;replace E:=E.1.put2 0 hp hn zq7;clear hp hn))
 replace E:=zz E.1.drew
 refine zfa commitI_B_ok5_0 (S:=fun w'=>w'.heap[w.heap.size]?=some (.cells (cs:List Value).toArray 46 (0,0))∧True) zq13 (fun _ _ _ _ h=>h) ⟨(E.1.box 4 rfl),trivial⟩ (fun hHeld=> ?_)
 generalize hq:World.drew _=w7_ at hHeld ⊢;replace E:=E.1.to hq;clear hq
 iterate 2 (refine zM (v:= ?_) (a':= ?_) rfl rfl (Or.inl ⟨zq22,zq12⟩) zq2 ?_)
 refine zB (a':= ?_) rfl rfl zq22 37 _ rfl w.heap.size 4 cM [.slice B0 l0.length d0,.slice B1 l1.length d1] (cW2++[.int .i64 n]) _ rfl (fun w' hs=>hs.1) zq19 (LM.1) Tryz.underlying37 rfl zq13 zq2 ?_
 (refine zM (v:= ?_) (a':= ?_) rfl rfl (Or.inl ⟨zq22,zq12⟩) zq2 ?_)
 refine zB (a':= ?_) rfl rfl zq22 40 _ rfl w.heap.size 0 [] cM ([.slice B0 l0.length d0]++([.slice B1 l1.length d1]++(cW2++[.int .i64 n]))) _ rfl (fun w' hs=>hs.1) zq19 (rfl) Tryz.underlying40 rfl zq89 zq2 ?_
 refine zS rfl (zC rfl Tryz.func46 zq13 rfl #[.agg [.slice B0 l0.length d0,.slice B1 l1.length d1].toArray] zq22 rfl zq14 ?_)
 with_reducible refine (zkc (l0,l1) _ (zsa (E.1.K KW0.1) (E.1.K KW1.1)) FL.1).mono ?_
 rintro e w10_ ⟨d3,rfl,M1,hb⟩
 have q:=E.1.made4 O.1 2 rfl M1 hb;clear O E M1 hb;obtain ⟨n0,m10,L1,Q1,O,E⟩:=q
 refine ⟨_,rfl,⟨(E.1.box 5 rfl),trivial⟩,(fun hHeld=> ?_)⟩
 refine zw (a':= ?_) zq2 ?_
 refine zS rfl (zC rfl Tryz.func44 zq13 rfl #[.agg cM.toArray] zq22 rfl zq14 ?_)
 with_reducible refine (zdb k y y _ (E.1.K KM.1) F1.1).mono ?_
 rintro e w14_ ⟨d4,rfl,M2,hb⟩
 have q:=E.1.made4 O.1 4 rfl M2 hb;clear O E M2 hb;obtain ⟨n1,m11,L2,Q2,O,E⟩:=q
 refine ⟨_,rfl,⟨(E.1.box 6 rfl),trivial⟩,(fun hHeld=> ?_)⟩
 refine zw (a':= ?_) zq2 ?_
 refine zS rfl (zA rfl zq22 37 _ _ rfl (w.heap.size+1) 0 d3 [] [.slice none 0 0,.slice none 0 0] [] rfl rfl (E.1.box 5 rfl) zq6 (rfl) (zq40 L1.1) (zq24 L1.1) Q1.1 (fun W18_ hp hn=> ?_))
 replace E:=E.1.put2 5 hp hn zq7;clear hp hn
 refine ⟨⟨(E.1.box 6 rfl),trivial⟩,(fun hHeld=> ?_)⟩
 refine zS rfl (zA rfl zq22 40 _ _ rfl (w.heap.size+1+1) 0 d4 [] Z40 [] rfl rfl (E.1.box 4 rfl) zq6 (rfl) (zq40 L2.1) (zq24 L2.1) Q2.1 (fun W19_ hp hn=> ?_))
 replace E:=E.1.put2 4 hp hn zq7;clear hp hn
 refine ⟨⟨(E.1.box 6 rfl),trivial⟩,(fun hHeld=> ?_)⟩
 (refine zM (v:= ?_) (a':= ?_) rfl rfl (Or.inl ⟨zq22,zq12⟩) zq2 ?_)
 refine zX ?_
 clear hHeld
 go_wp2_with fail
 have BX:=zz (show _=some (Obj.cells (d3:List Value).toArray 37 (0,0)) from by first|exact (E.1.box 5 rfl)|simpa only [aA,aN,aL] using (E.1.box 5 rfl))
 have BX2:=zz (show _=some (Obj.cells (d4:List Value).toArray 40 (0,0)) from by first|exact (E.1.box 4 rfl)|simpa only [aA,aN,aL] using (E.1.box 4 rfl))
 refine bodyPost_ret (zG (rs:=[.cell 2 37,.cell 3 40,.tmp 4]) rfl zq38 (.cell (w.heap.size+1) 37 _ _ _ rfl BX.1 Tryz.underlying37 rfl (zq125 L1.1) (.cell (w.heap.size+1+1) 40 _ _ _ rfl BX2.1 Tryz.underlying40 rfl (by rw [List.size_toArray,show (d4:List Value).length=4 from L2.1];kernel_rfl) (.tmp .nil)))) rfl ?_
 exact ⟨_,_,rfl,⟨n0,m10,n1,m11,zq67,(E.1.made 1 rfl),(E.1.made 0 rfl)⟩,E.1.below⟩
def commitI_C_T8:Bool×List (List Nat×List Nat):=(true,[([],[]),([0],[0]),([1],[1]),([2],[2]),([],[]),([4],[4]),([5,3],[5]),([3,6,0,1,2,3],[3]),([6,7,0,1,2,3,4,5,6,7],[6]),([8,0,1,2,3,4,5,6,7,8],[])])
def commitI_C_B8:List Nat:=[0,1,3,7,0,16,63,127,255,511]
theorem commitI_C_ok8_0:regT (zFa Tryz.f9 8) commitI_C_T8 commitI_C_B8 [] (.p 0 (.p 1 (.t 2 (.p 4 (.t 5 (.e 3 (.e 6 (.e 7 (.e 8 (.p 9 .d))))))))))=true:=zq13
theorem commitI_C (k:Nat) (y:S40) (l0:List ByteArray) (l1:List S110) (l2:Int) (l3 l4 l5:List Int) (n:Int) (m:S40) (t:ByteArray) (ok:Bool) (e0:List ByteArray) (e1:List S110) {cs:List Value} (w:World) (h:kTxn.K w (y,(l0,l1,l2,l3,l4,l5),n) cs) (fi:zRb (y,(l0,l1,l2,l3,l4,l5),n)=false) (f1:impl_cloneMeta.f k y.f0 y.f1 y.f2 y.f3=some (y.f0,y.f1,y.f2,y.f3)) (fl:l0.length≤2000000∧l1.length≤2000000) (fn:ImplNM k (y,(l0,l1,l2,l3,l4,l5),n) m true) (ft:∃(vt:Int→ByteArray) (sl:ByteArray→ByteArray),TxF k vt sl∧MTxt vt sl m t ok) (fs:impl_SyncDisk.f k l0 l1=some (e0,e1)) (fx:0≤m.f0∧m.f0≤100000) (fe:e0.length≤2000000∧e1.length≤2000000) (fd:impl_DiskOk.f e0 e1=some false):
  Calls Tryz.prog 9 #[.agg cs.toArray] w fun e w'=>∃ds es:List Value,e= .returned (.tuple #[.agg ds.toArray,.agg es.toArray,.bool false])∧Two w w' kDisk (l0,l1) ds k40 y es∧Below w.heap.size w w':=by
 have KS0:=h
 obtain ⟨cM,_,rfl,hM,cW_,cI,rfl,hW_,hI⟩:=h
 obtain rfl:cI=[.int .i64 n]:=hI
 obtain ⟨u0,_,rfl,hU0,u1,cW2,rfl,hU1,hW2⟩:=hW_
 have hV0:=hU0
 have hV1:=hU1
 obtain ⟨B0,d0,rfl,-,-⟩:=hU0
 obtain ⟨B1,d1,rfl,-,-⟩:=hU1
 obtain ⟨cs,hcs⟩:∃cs,cs=cM++([.slice B0 l0.length d0]++([.slice B1 l1.length d1]++(cW2++[.int .i64 n]))):=⟨_,rfl⟩
 simp only [List.append_assoc] at KS0 ⊢
 rw [←hcs] at KS0 ⊢
 have Ecs:=zz hcs
 have KS:=zz KS0
 have KM:=zz hM;have KW0:=zz (show (Own.srow 9 Kd.string).K w l0 [.slice B0 l0.length d0] from hV0);have KW1:=zz (show (Own.srow 110 k110).K w l1 [.slice B1 l1.length d1] from hV1)
 have LM:=zz (show cM.length=4 from Kd.K_len _ hM);have Lcs:=zz (show cs.length=11 from Kd.K_len _ KS0)
 have FI:=zz fi;clear fi
 have F1:=zz f1;clear f1
 have FL:=zz fl;clear fl
 have FN:=zz fn;clear fn
 have FT:=zz ft;clear ft
 have FS:=zz fs;clear fs
 have FX:=zz fx;clear fx
 have FE:=zz fe;clear fe
 have FD:=zz fd;clear fd
 clear KS0 hM hV0 hV1 hW2 hcs
 have O:=zz (z3a w.heap.size)
 have E:=zz (Env.start w)
 go_enter Tryz.func9,Tryz.ntmps9
 go_wp2_with (first|((with_reducible refine zd (N:=8) rfl ?_);replace O:=zz (And.intro E.1.le O.1);replace E:=zz (E.1.alloc cs 46 (g:=w.heap.size) rfl);replace E:=zz (E.1.alloc [.slice none 0 0,.slice none 0 0] 37 (g:=(w.heap.size+1)) zq38);replace E:=zz (E.1.alloc Z40 40 (g:=(w.heap.size+1+1)) zq38);refine zf rfl 46 _ rfl w.heap.size 0 [] cs [] _ rfl (E.1.box 2 rfl) zq6 (rfl) Tryz.underlying46 rfl zq59 ?_))
 ((with_reducible refine (idleI_d y l0 l1 l2 l3 l4 l5 n false _ (E.1.K KS.1) FI.1).mono ?_);rintro e w1_ ⟨rfl,hb⟩)
 replace E:=zz (E.1.call hb);clear hb
 go_wp2_with (first|((with_reducible refine zd (N:=18) rfl ?_);refine zf rfl 46 _ rfl w.heap.size 0 [] cs [] _ rfl (E.1.box 2 rfl) zq6 (rfl) Tryz.underlying46 rfl zq59 ?_))
 ((with_reducible refine (implNM_c k (y,(l0,l1,l2,l3,l4,l5),n) m true _ (E.1.K KS.1) FN.1).mono ?_);rintro e w5 ⟨d2,rfl,M0,hb⟩)
 have q:=E.1.made4 O.1 4 rfl M0 hb;clear O E M0 hb;obtain ⟨n4_,m5_,L0,Q0,O,E⟩:=q
 go_wp2_with (first|((with_reducible refine zm (t:=40) (p:=5) rfl ?_);replace O:=zz (And.intro E.1.le O.1);replace E:=zz (E.1.alloc Z40 40 (g:=w5.heap.size) rfl);refine zn rfl 40 _ _ rfl rfl w5.heap.size 0 d2 [] Z40 [] rfl rfl (E.1.box 0 rfl) zq6 (rfl) (zq40 L0.1) (zq24 L0.1) Q0.1 ?_;intro W6_ hp hn;replace E:=E.1.put2 0 hp hn zq7;clear hp hn)|((with_reducible refine zd (N:=32) rfl ?_);refine zf rfl 46 _ rfl w.heap.size 0 [] cs [] _ rfl (E.1.box 4 rfl) zq6 (rfl) Tryz.underlying46 rfl zq59 ?_)|((with_reducible refine zd (N:=33) rfl ?_);refine zf rfl 40 _ rfl w5.heap.size 0 [] d2 [] _ rfl (E.1.box 0 rfl) zq6 (rfl) Tryz.underlying40 rfl (zq24 L0.1) ?_))
 ((with_reducible refine (metaWritten_f k y l0 l1 l2 l3 l4 l5 n m t ok e0 e1 _ (E.1.K KS.1) (E.1.mk_ 1 rfl) FT.1 FS.1 FX.1 FE.1 FD.1).mono ?_);rintro e w6 ⟨d3,rfl,M1,hb⟩)
 have q:=E.1.made4 O.1 2 rfl M1 hb;clear O E M1 hb;obtain ⟨n9_,m10_,L1,Q1,O,E⟩:=q
 go_upto_region 8 with (first|((with_reducible refine zm (t:=37) (p:=7) rfl ?_);replace O:=zz (And.intro E.1.le O.1);replace E:=zz (E.1.alloc [.slice none 0 0,.slice none 0 0] 37 (g:=w6.heap.size) rfl);refine zn rfl 37 _ _ rfl rfl w6.heap.size 0 d3 [] [.slice none 0 0,.slice none 0 0] [] rfl rfl (E.1.box 0 rfl) zq6 (rfl) (zq40 L1.1) (zq24 L1.1) Q1.1 ?_;intro W11_ hp hn;replace E:=E.1.put2 0 hp hn zq7;clear hp hn))
 replace E:=zz E.1.drew
 refine zfa commitI_C_ok8_0 (S:=fun w'=>w'.heap[w.heap.size]?=some (.cells (cs:List Value).toArray 46 (0,0))∧True) zq13 (fun _ _ _ _ h=>h) ⟨(E.1.box 6 rfl),trivial⟩ (fun hHeld=> ?_)
 generalize hq:World.drew _=w12_ at hHeld ⊢;replace E:=E.1.to hq;clear hq
 iterate 2 (refine zM (v:= ?_) (a':= ?_) rfl rfl (Or.inl ⟨zq22,zq12⟩) zq2 ?_)
 refine zB (a':= ?_) rfl rfl zq22 37 _ rfl w.heap.size 4 cM [.slice B0 l0.length d0,.slice B1 l1.length d1] (cW2++[.int .i64 n]) _ rfl (fun w' hs=>hs.1) zq19 (LM.1) Tryz.underlying37 rfl zq13 zq2 ?_
 (refine zM (v:= ?_) (a':= ?_) rfl rfl (Or.inl ⟨zq22,zq12⟩) zq2 ?_)
 refine zB (a':= ?_) rfl rfl zq22 40 _ rfl w.heap.size 0 [] cM ([.slice B0 l0.length d0]++([.slice B1 l1.length d1]++(cW2++[.int .i64 n]))) _ rfl (fun w' hs=>hs.1) zq19 (rfl) Tryz.underlying40 rfl zq89 zq2 ?_
 refine zS rfl (zC rfl Tryz.func46 zq13 rfl #[.agg [.slice B0 l0.length d0,.slice B1 l1.length d1].toArray] zq22 rfl zq14 ?_)
 with_reducible refine (zkc (l0,l1) _ (zsa (E.1.K KW0.1) (E.1.K KW1.1)) FL.1).mono ?_
 rintro e w15_ ⟨d4,rfl,M2,hb⟩
 have q:=E.1.made4 O.1 2 rfl M2 hb;clear O E M2 hb;obtain ⟨n0,m10,L2,Q2,O,E⟩:=q
 refine ⟨_,rfl,⟨(E.1.box 7 rfl),trivial⟩,(fun hHeld=> ?_)⟩
 refine zw (a':= ?_) zq2 ?_
 refine zS rfl (zC rfl Tryz.func44 zq13 rfl #[.agg cM.toArray] zq22 rfl zq14 ?_)
 with_reducible refine (zdb k y y _ (E.1.K KM.1) F1.1).mono ?_
 rintro e w19_ ⟨d5,rfl,M3,hb⟩
 have q:=E.1.made4 O.1 4 rfl M3 hb;clear O E M3 hb;obtain ⟨n1,m11,L3,Q3,O,E⟩:=q
 refine ⟨_,rfl,⟨(E.1.box 8 rfl),trivial⟩,(fun hHeld=> ?_)⟩
 refine zw (a':= ?_) zq2 ?_
 refine zS rfl (zA rfl zq22 37 _ _ rfl (w.heap.size+1) 0 d4 [] [.slice none 0 0,.slice none 0 0] [] rfl rfl (E.1.box 7 rfl) zq6 (rfl) (zq40 L2.1) (zq24 L2.1) Q2.1 (fun W23_ hp hn=> ?_))
 replace E:=E.1.put2 7 hp hn zq7;clear hp hn
 refine ⟨⟨(E.1.box 8 rfl),trivial⟩,(fun hHeld=> ?_)⟩
 refine zS rfl (zA rfl zq22 40 _ _ rfl (w.heap.size+1+1) 0 d5 [] Z40 [] rfl rfl (E.1.box 6 rfl) zq6 (rfl) (zq40 L3.1) (zq24 L3.1) Q3.1 (fun W24_ hp hn=> ?_))
 replace E:=E.1.put2 6 hp hn zq7;clear hp hn
 refine ⟨⟨(E.1.box 8 rfl),trivial⟩,(fun hHeld=> ?_)⟩
 (refine zM (v:= ?_) (a':= ?_) rfl rfl (Or.inl ⟨zq22,zq12⟩) zq2 ?_)
 refine zX ?_
 clear hHeld
 go_wp2_with fail
 have BX:=zz (show _=some (Obj.cells (d4:List Value).toArray 37 (0,0)) from by first|exact (E.1.box 7 rfl)|simpa only [aA,aN,aL] using (E.1.box 7 rfl))
 have BX2:=zz (show _=some (Obj.cells (d5:List Value).toArray 40 (0,0)) from by first|exact (E.1.box 6 rfl)|simpa only [aA,aN,aL] using (E.1.box 6 rfl))
 refine bodyPost_ret (zG (rs:=[.cell 2 37,.cell 3 40,.tmp 4]) rfl zq38 (.cell (w.heap.size+1) 37 _ _ _ rfl BX.1 Tryz.underlying37 rfl (by rw [List.size_toArray,show (d4:List Value).length=2 from L2.1];kernel_rfl) (.cell (w.heap.size+1+1) 40 _ _ _ rfl BX2.1 Tryz.underlying40 rfl (by rw [List.size_toArray,show (d5:List Value).length=4 from L3.1];kernel_rfl) (.tmp .nil)))) rfl ?_
 exact ⟨_,_,rfl,⟨n0,m10,n1,m11,zq67,(E.1.made 1 rfl),(E.1.made 0 rfl)⟩,E.1.below⟩
def commitI_D_T9:Bool×List (List Nat×List Nat):=(true,[([],[]),([0],[0]),([],[]),([1,1,0,1],[1]),([2,3,0,1,2,3],[2]),([4,0,1,2,3,4],[])])
def commitI_D_B9:List Nat:=[0,1,0,3,15,31]
theorem commitI_D_ok9_0:regT (zFa Tryz.f9 9) commitI_D_T9 commitI_D_B9 [] (.t 0 (.t 2 (.e 1 (.e 3 (.e 4 (.p 5 .d))))))=true:=zq13
theorem commitI_D (k:Nat) (y:S40) (l0:List ByteArray) (l1:List S110) (l2:Int) (l3 l4 l5:List Int) (n:Int) (m:S40) (t:ByteArray) (ok:Bool) (e0:List ByteArray) (e1:List S110) (z:(List ByteArray×List S110)) (g0:List ByteArray) (g1:List S110) {cs:List Value} (w:World) (h:kTxn.K w (y,(l0,l1,l2,l3,l4,l5),n) cs) (fi:zRb (y,(l0,l1,l2,l3,l4,l5),n)=false) (fn:ImplNM k (y,(l0,l1,l2,l3,l4,l5),n) m true) (ft:∃(vt:Int→ByteArray) (sl:ByteArray→ByteArray),TxF k vt sl∧MTxt vt sl m t ok) (fs:impl_SyncDisk.f k l0 l1=some (e0,e1)) (fx:0≤m.f0∧m.f0≤100000) (fw:impl_WritePage.f e0 e1 (m.f0%2) t=some (z.1,z.2,true)) (fs2:impl_SyncDisk.f k z.1 z.2=some (g0,g1)):
  Calls Tryz.prog 9 #[.agg cs.toArray] w fun e w'=>∃ds es:List Value,e= .returned (.tuple #[.agg ds.toArray,.agg es.toArray,.bool true])∧Two w w' kDisk (g0,g1) ds k40 m es∧Below w.heap.size w w':=by
 have KS0:=h
 obtain ⟨cM,_,rfl,hM,cW_,cI,rfl,hW_,hI⟩:=h
 obtain rfl:cI=[.int .i64 n]:=hI
 obtain ⟨u0,_,rfl,hU0,u1,cW2,rfl,hU1,hW2⟩:=hW_
 have hV0:=hU0
 have hV1:=hU1
 obtain ⟨B0,d0,rfl,-,-⟩:=hU0
 obtain ⟨B1,d1,rfl,-,-⟩:=hU1
 obtain ⟨cs,hcs⟩:∃cs,cs=cM++([.slice B0 l0.length d0]++([.slice B1 l1.length d1]++(cW2++[.int .i64 n]))):=⟨_,rfl⟩
 simp only [List.append_assoc] at KS0 ⊢
 rw [←hcs] at KS0 ⊢
 have KS:=zz KS0
 have Lcs:=zz (show cs.length=11 from Kd.K_len _ KS0)
 have FI:=zz fi;clear fi
 have FN:=zz fn;clear fn
 have FT:=zz ft;clear ft
 have FS:=zz fs;clear fs
 have FX:=zz fx;clear fx
 have FW:=zz fw;clear fw
 have FS2:=zz fs2;clear fs2
 clear KS0 hM hV0 hV1 hW2 hcs
 have O:=zz (z3a w.heap.size)
 have E:=zz (Env.start w)
 go_enter Tryz.func9,Tryz.ntmps9
 go_wp2_with (first|((with_reducible refine zd (N:=8) rfl ?_);replace O:=zz (And.intro E.1.le O.1);replace E:=zz (E.1.alloc cs 46 (g:=w.heap.size) rfl);replace E:=zz (E.1.alloc [.slice none 0 0,.slice none 0 0] 37 (g:=(w.heap.size+1)) zq38);replace E:=zz (E.1.alloc Z40 40 (g:=(w.heap.size+1+1)) zq38);refine zf rfl 46 _ rfl w.heap.size 0 [] cs [] _ rfl (E.1.box 2 rfl) zq6 (rfl) Tryz.underlying46 rfl zq59 ?_))
 ((with_reducible refine (idleI_d y l0 l1 l2 l3 l4 l5 n false _ (E.1.K KS.1) FI.1).mono ?_);rintro e w1_ ⟨rfl,hb⟩)
 replace E:=zz (E.1.call hb);clear hb
 go_wp2_with (first|((with_reducible refine zd (N:=18) rfl ?_);refine zf rfl 46 _ rfl w.heap.size 0 [] cs [] _ rfl (E.1.box 2 rfl) zq6 (rfl) Tryz.underlying46 rfl zq59 ?_))
 ((with_reducible refine (implNM_c k (y,(l0,l1,l2,l3,l4,l5),n) m true _ (E.1.K KS.1) FN.1).mono ?_);rintro e w5 ⟨d2,rfl,M0,hb⟩)
 have q:=E.1.made4 O.1 4 rfl M0 hb;clear O E M0 hb;obtain ⟨n0,m10,L0,Q0,O,E⟩:=q
 go_wp2_with (first|((with_reducible refine zm (t:=40) (p:=5) rfl ?_);replace O:=zz (And.intro E.1.le O.1);replace E:=zz (E.1.alloc Z40 40 (g:=w5.heap.size) rfl);refine zn rfl 40 _ _ rfl rfl w5.heap.size 0 d2 [] Z40 [] rfl rfl (E.1.box 0 rfl) zq6 (rfl) (zq40 L0.1) (zq24 L0.1) Q0.1 ?_;intro W6_ hp hn;replace E:=E.1.put2 0 hp hn zq7;clear hp hn)|((with_reducible refine zd (N:=32) rfl ?_);refine zf rfl 46 _ rfl w.heap.size 0 [] cs [] _ rfl (E.1.box 4 rfl) zq6 (rfl) Tryz.underlying46 rfl zq59 ?_)|((with_reducible refine zd (N:=33) rfl ?_);refine zf rfl 40 _ rfl w5.heap.size 0 [] d2 [] _ rfl (E.1.box 0 rfl) zq6 (rfl) Tryz.underlying40 rfl (zq24 L0.1) ?_))
 ((with_reducible refine (metaWritten_t k y l0 l1 l2 l3 l4 l5 n m t ok e0 e1 z _ (E.1.K KS.1) (E.1.mk_ 1 rfl) FT.1 FS.1 FX.1 FW.1).mono ?_);rintro e w6 ⟨d3,rfl,M1,hb⟩)
 have q:=E.1.made4 O.1 2 rfl M1 hb;clear O E M1 hb;obtain ⟨n9_,m10_,L1,Q1,O,E⟩:=q
 go_upto_region 9 with (first|((with_reducible refine zm (t:=37) (p:=7) rfl ?_);replace O:=zz (And.intro E.1.le O.1);replace E:=zz (E.1.alloc [.slice none 0 0,.slice none 0 0] 37 (g:=w6.heap.size) rfl);refine zn rfl 37 _ _ rfl rfl w6.heap.size 0 d3 [] [.slice none 0 0,.slice none 0 0] [] rfl rfl (E.1.box 0 rfl) zq6 (rfl) (zq40 L1.1) (zq24 L1.1) Q1.1 ?_;intro W11_ hp hn;replace E:=E.1.put2 0 hp hn zq7;clear hp hn))
 replace E:=zz E.1.drew
 refine zfa commitI_D_ok9_0 (S:=fun w'=>w'.heap[w6.heap.size]?=some (.cells (([]++(d3++[])):List Value).toArray 37 (0,0))∧w'.heap[w5.heap.size]?=some (.cells (([]++(d2++[])):List Value).toArray 40 (0,0))∧True) zq13 (fun _ _ _ _ h=>h) ⟨(E.1.box 0 rfl),(E.1.box 2 rfl),trivial⟩ (fun hHeld=> ?_)
 generalize hq:World.drew _=w12_ at hHeld ⊢;replace E:=E.1.to hq;clear hq
 refine zB (a':= ?_) rfl rfl zq22 37 _ rfl w6.heap.size 0 [] d3 [] _ rfl (fun w' hs=>hs.1) zq6 (rfl) Tryz.underlying37 rfl (zq24 L1.1) zq2 ?_
 refine zB (a':= ?_) rfl rfl zq22 40 _ rfl w5.heap.size 0 [] d2 [] _ rfl (fun w' hs=>hs.2.1) zq6 (rfl) Tryz.underlying40 rfl (zq24 L0.1) zq2 ?_
 refine zS rfl (zC rfl Tryz.func43 zq13 rfl #[.agg d3.toArray] zq22 rfl zq14 ?_)
 with_reducible refine (zbc k z.1 z.2 g0 g1 _ (E.1.mk_ 1 rfl) FS2.1).mono ?_
 rintro e w15_ ⟨d4,rfl,M2,hb⟩
 have q:=E.1.made4 O.1 2 rfl M2 hb;clear O E M2 hb;obtain ⟨n1,m11,L2,Q2,O,E⟩:=q
 refine ⟨_,rfl,⟨(E.1.box 1 rfl),(E.1.box 3 rfl),trivial⟩,(fun hHeld=> ?_)⟩
 refine zw (a':= ?_) zq2 ?_
 refine zS rfl (zA rfl zq22 37 _ _ rfl (w.heap.size+1) 0 d4 [] [.slice none 0 0,.slice none 0 0] [] rfl rfl (E.1.box 6 rfl) zq6 (rfl) (zq40 L2.1) (zq24 L2.1) Q2.1 (fun W19_ hp hn=> ?_))
 replace E:=E.1.put2 6 hp hn zq7;clear hp hn
 refine ⟨⟨(E.1.box 1 rfl),(E.1.box 3 rfl),trivial⟩,(fun hHeld=> ?_)⟩
 refine zS rfl (zA rfl zq22 40 _ _ rfl (w.heap.size+1+1) 0 d2 [] Z40 [] rfl rfl (E.1.box 5 rfl) zq6 (rfl) (zq40 L0.1) (zq24 L0.1) Q0.1 (fun W20_ hp hn=> ?_))
 replace E:=E.1.put2 5 hp hn zq7;clear hp hn
 refine ⟨⟨(E.1.box 1 rfl),(E.1.box 3 rfl),trivial⟩,(fun hHeld=> ?_)⟩
 (refine zM (v:= ?_) (a':= ?_) rfl rfl (Or.inl ⟨zq22,zq12⟩) zq2 ?_)
 refine zX ?_
 clear hHeld
 go_wp2_with fail
 have BX:=zz (show _=some (Obj.cells (d4:List Value).toArray 37 (0,0)) from by first|exact (E.1.box 6 rfl)|simpa only [aA,aN,aL] using (E.1.box 6 rfl))
 have BX2:=zz (show _=some (Obj.cells (d2:List Value).toArray 40 (0,0)) from by first|exact (E.1.box 5 rfl)|simpa only [aA,aN,aL] using (E.1.box 5 rfl))
 refine bodyPost_ret (zG (rs:=[.cell 2 37,.cell 3 40,.tmp 4]) rfl zq38 (.cell (w.heap.size+1) 37 _ _ _ rfl BX.1 Tryz.underlying37 rfl (by rw [List.size_toArray,show (d4:List Value).length=2 from L2.1];kernel_rfl) (.cell (w.heap.size+1+1) 40 _ _ _ rfl BX2.1 Tryz.underlying40 rfl (by rw [List.size_toArray,show (d2:List Value).length=4 from L0.1];kernel_rfl) (.tmp .nil)))) rfl ?_
 exact ⟨_,_,rfl,⟨n1,m11,n0,m10,zq67,(E.1.made 0 rfl),(E.1.made 4 rfl)⟩,E.1.below⟩
theorem metaTextS_c (k:Nat) (x:S40) (t:ByteArray) (ok:Bool) {cs:List Value} (w:World) (h:k40.K w x cs) (ft:∃(vt:Int→ByteArray) (sl:ByteArray→ByteArray),TxF k vt sl∧MTxt vt sl x t ok):Calls Tryz.prog 37 #[.agg cs.toArray] w fun e w'=>e= .returned (.tuple #[.string t,.bool ok])∧Below w.heap.size w w':=by
 obtain ⟨vt,sl,T,hm⟩:=ft
 exact zXa T x t ok w h hm
theorem idleS_d (y:S40) (l0:List ByteArray) (l1:List S110) (l2:Int) (l3 l4 l5:List Int) (n:Int) (b:Bool) {cs:List Value} (w:World) (h:kTxn.K w (y,(l0,l1,l2,l3,l4,l5),n) cs) (hb:zRb (y,(l0,l1,l2,l3,l4,l5),n)=b):Calls Tryz.prog 32 #[.agg cs.toArray] w fun e w'=>e= .returned (.bool b)∧Below w.heap.size w w':=by
 rw [←hb]
 exact idleS_c y l0 l1 l2 l3 l4 l5 n w h
theorem meta_lit {W:World} {base:Nat} {ok:Nat→Prop} {x:S40} {ds:List Value} (h:k40.M W base ok x ds):∃A c,ds=[.int .i64 x.f0]++([.int .i64 x.f1]++([.int .i64 x.f2]++[.slice A x.f3.length c])):=by
 obtain ⟨v3,rfl,R⟩:=k40_openM h
 obtain ⟨A,c,rfl⟩:=Kd.S_slice R
 exact ⟨A,c,rfl⟩
theorem Env.atTop {w0 W:World} {top t:Nat} {fs:List Fct} (E:Env w0 W top fs) (h:t=top):Env w0 W t fs:=by subst h;exact E
def commitS_A_T2:Bool×List (List Nat×List Nat):=(true,[([],[]),([0],[0]),([1],[1]),([2],[2]),([],[]),([4],[4]),([5,3],[5]),([3,6,0,1,2,3],[3]),([6,7,0,1,2,3,4,5,6,7],[6]),([8,0,1,2,3,4,5,6,7,8],[])])
def commitS_A_B2:List Nat:=[0,1,3,7,0,16,63,127,255,511]
theorem commitS_A_ok2_0:regT (zFa Tryz.f7 2) commitS_A_T2 commitS_A_B2 [] (.p 0 (.p 1 (.t 2 (.p 4 (.t 5 (.e 3 (.e 6 (.e 7 (.e 8 (.p 9 .d))))))))))=true:=zq13
theorem commitS_A (k:Nat) (y:S40) (l0:List ByteArray) (l1:List S110) (l2:Int) (l3 l4 l5:List Int) (n:Int) (e0:List ByteArray) (e1:List S110) {cs:List Value} (w:World) (h:kTxn.K w (y,(l0,l1,l2,l3,l4,l5),n) cs) (fi:zRb (y,(l0,l1,l2,l3,l4,l5),n)=true) (f1:zua y) (fs:spec_SyncDisk.f k l0 l1=some (e0,e1)):
  Calls Tryz.prog 7 #[.agg cs.toArray] w fun e w'=>∃ds es:List Value,e= .returned (.tuple #[.agg ds.toArray,.agg es.toArray,.bool true])∧Two w w' kDisk (e0,e1) ds k40 y es∧Below w.heap.size w w':=by
 have KS0:=h
 obtain ⟨cM,_,rfl,hM,cW_,cI,rfl,hW_,hI⟩:=h
 obtain rfl:cI=[.int .i64 n]:=hI
 obtain ⟨u0,_,rfl,hU0,u1,cW2,rfl,hU1,hW2⟩:=hW_
 have hV0:=hU0
 have hV1:=hU1
 obtain ⟨B0,d0,rfl,-,-⟩:=hU0
 obtain ⟨B1,d1,rfl,-,-⟩:=hU1
 obtain ⟨cs,hcs⟩:∃cs,cs=cM++([.slice B0 l0.length d0]++([.slice B1 l1.length d1]++(cW2++[.int .i64 n]))):=⟨_,rfl⟩
 simp only [List.append_assoc] at KS0 ⊢
 rw [←hcs] at KS0 ⊢
 have Ecs:=zz hcs
 have KS:=zz KS0
 have KM:=zz hM;have KW0:=zz (show (Own.srow 9 Kd.string).K w l0 [.slice B0 l0.length d0] from hV0);have KW1:=zz (show (Own.srow 110 k110).K w l1 [.slice B1 l1.length d1] from hV1)
 have LM:=zz (show cM.length=4 from Kd.K_len _ hM);have Lcs:=zz (show cs.length=11 from Kd.K_len _ KS0)
 have FI:=zz fi;clear fi
 have F1:=zz f1;clear f1
 have FS:=zz fs;clear fs
 clear KS0 hM hV0 hV1 hW2 hcs
 have O:=zz (z3a w.heap.size)
 have E:=zz (Env.start w)
 go_enter Tryz.func7,Tryz.ntmps7
 go_wp2_with (first|((with_reducible refine zd (N:=11) rfl ?_);replace O:=zz (And.intro E.1.le O.1);replace E:=zz (E.1.alloc cs 46 (g:=w.heap.size) rfl);replace E:=zz (E.1.alloc [.slice none 0 0,.slice none 0 0] 37 (g:=(w.heap.size+1)) zq38);replace E:=zz (E.1.alloc Z40 40 (g:=(w.heap.size+1+1)) zq38);refine zf rfl 46 _ rfl w.heap.size 0 [] cs [] _ rfl (E.1.box 2 rfl) zq6 (rfl) Tryz.underlying46 rfl zq59 ?_))
 ((with_reducible refine (idleS_d y l0 l1 l2 l3 l4 l5 n true _ (E.1.K KS.1) FI.1).mono ?_);rintro e w1_ ⟨rfl,hb⟩)
 replace E:=zz (E.1.call hb);clear hb
 go_upto_region 2 with (fail)
 replace E:=zz E.1.drew
 refine zfa commitS_A_ok2_0 (S:=fun w'=>w'.heap[w.heap.size]?=some (.cells (cs:List Value).toArray 46 (0,0))∧True) zq13 (fun _ _ _ _ h=>h) ⟨(E.1.box 2 rfl),trivial⟩ (fun hHeld=> ?_)
 generalize hq:World.drew _=w2_ at hHeld ⊢;replace E:=E.1.to hq;clear hq
 iterate 2 (refine zM (v:= ?_) (a':= ?_) rfl rfl (Or.inl ⟨zq22,zq12⟩) zq2 ?_)
 refine zB (a':= ?_) rfl rfl zq22 37 _ rfl w.heap.size 4 cM [.slice B0 l0.length d0,.slice B1 l1.length d1] (cW2++[.int .i64 n]) _ rfl (fun w' hs=>hs.1) zq19 (LM.1) Tryz.underlying37 rfl zq13 zq2 ?_
 (refine zM (v:= ?_) (a':= ?_) rfl rfl (Or.inl ⟨zq22,zq12⟩) zq2 ?_)
 refine zB (a':= ?_) rfl rfl zq22 40 _ rfl w.heap.size 0 [] cM ([.slice B0 l0.length d0]++([.slice B1 l1.length d1]++(cW2++[.int .i64 n]))) _ rfl (fun w' hs=>hs.1) zq19 (rfl) Tryz.underlying40 rfl zq89 zq2 ?_
 refine zS rfl (zC rfl Tryz.func33 zq13 rfl #[.agg [.slice B0 l0.length d0,.slice B1 l1.length d1].toArray] zq22 rfl zq14 ?_)
 with_reducible refine (zqb k l0 l1 e0 e1 _ (zsa (E.1.K KW0.1) (E.1.K KW1.1)) FS.1).mono ?_
 rintro e wr2o3_ ⟨dr2o3__,rfl,Mdr2o3__,hb⟩
 have q:=E.1.made4 O.1 2 rfl Mdr2o3__ hb;clear O E Mdr2o3__ hb;obtain ⟨nr2o3___,mr2o3____,Ldr2o3__,Odr2o3__,O,E⟩:=q
 refine ⟨_,rfl,⟨(E.1.box 3 rfl),trivial⟩,(fun hHeld=> ?_)⟩
 refine zw (a':= ?_) zq2 ?_
 refine zS rfl (zC rfl Tryz.func34 zq13 rfl #[.agg cM.toArray] zq22 rfl zq14 ?_)
 with_reducible refine (zkb y y _ (E.1.K KM.1) ⟨rfl,F1.1⟩).mono ?_
 rintro e wr2o6_ ⟨dr2o6__,rfl,Mdr2o6__,hb⟩
 have q:=E.1.made4 O.1 4 rfl Mdr2o6__ hb;clear O E Mdr2o6__ hb;obtain ⟨nr2o6___,mr2o6____,Ldr2o6__,Odr2o6__,O,E⟩:=q
 refine ⟨_,rfl,⟨(E.1.box 4 rfl),trivial⟩,(fun hHeld=> ?_)⟩
 refine zw (a':= ?_) zq2 ?_
 refine zS rfl (zA rfl zq22 37 _ _ rfl (w.heap.size+1) 0 dr2o3__ [] [.slice none 0 0,.slice none 0 0] [] rfl rfl (E.1.box 3 rfl) zq6 (rfl) (zq40 Ldr2o3__.1) (zq24 Ldr2o3__.1) Odr2o3__.1 (fun Wr2o7_ hp hn=> ?_))
 replace E:=E.1.put2 3 hp hn zq7;clear hp hn
 refine ⟨⟨(E.1.box 4 rfl),trivial⟩,(fun hHeld=> ?_)⟩
 refine zS rfl (zA rfl zq22 40 _ _ rfl (w.heap.size+1+1) 0 dr2o6__ [] Z40 [] rfl rfl (E.1.box 2 rfl) zq6 (rfl) (zq40 Ldr2o6__.1) (zq24 Ldr2o6__.1) Odr2o6__.1 (fun Wr2o8_ hp hn=> ?_))
 replace E:=E.1.put2 2 hp hn zq7;clear hp hn
 refine ⟨⟨(E.1.box 4 rfl),trivial⟩,(fun hHeld=> ?_)⟩
 (refine zM (v:= ?_) (a':= ?_) rfl rfl (Or.inl ⟨zq22,zq12⟩) zq2 ?_)
 refine zX ?_
 clear hHeld
 obtain ⟨t2_,ht⟩:∃t,t=mr2o6____:=⟨_,rfl⟩
 replace E:=zz (Env.atTop E.1 ht)
 replace O:=zz (And.intro ht (And.intro E.1.le O.1));clear ht
 go_wp2_with fail
 have BX:=zz (show _=some (Obj.cells (dr2o3__:List Value).toArray 37 (0,0)) from by first|exact (E.1.box 3 rfl)|simpa only [aA,aN,aL] using (E.1.box 3 rfl))
 have BX2:=zz (show _=some (Obj.cells (dr2o6__:List Value).toArray 40 (0,0)) from by first|exact (E.1.box 2 rfl)|simpa only [aA,aN,aL] using (E.1.box 2 rfl))
 refine bodyPost_ret (zG (rs:=[.cell 2 37,.cell 3 40,.tmp 4]) rfl zq38 (.cell (w.heap.size+1) 37 _ _ _ rfl BX.1 Tryz.underlying37 rfl (by rw [List.size_toArray,show (dr2o3__:List Value).length=2 from Ldr2o3__.1];kernel_rfl) (.cell (w.heap.size+1+1) 40 _ _ _ rfl BX2.1 Tryz.underlying40 rfl (by rw [List.size_toArray,show (dr2o6__:List Value).length=4 from Ldr2o6__.1];kernel_rfl) (.tmp .nil)))) rfl ?_
 exact ⟨_,_,rfl,⟨nr2o3___,mr2o3____,nr2o6___,mr2o6____,zq67,(E.1.made 1 rfl),(E.1.made 0 rfl)⟩,E.1.below⟩
def commitS_B_T5:Bool×List (List Nat×List Nat):=(true,[([],[]),([0],[0]),([1],[1]),([2],[2]),([],[]),([4],[4]),([5,3],[5]),([3,6,0,1,2,3],[3]),([6,7,0,1,2,3,4,5,6,7],[6]),([8,0,1,2,3,4,5,6,7,8],[])])
def commitS_B_B5:List Nat:=[0,1,3,7,0,16,63,127,255,511]
theorem commitS_B_ok5_0:regT (zFa Tryz.f7 5) commitS_B_T5 commitS_B_B5 [] (.p 0 (.p 1 (.t 2 (.p 4 (.t 5 (.e 3 (.e 6 (.e 7 (.e 8 (.p 9 .d))))))))))=true:=zq13
theorem commitS_B (k:Nat) (y:S40) (l0:List ByteArray) (l1:List S110) (l2:Int) (l3 l4 l5:List Int) (n:Int) (m:S40) {cs:List Value} (w:World) (h:kTxn.K w (y,(l0,l1,l2,l3,l4,l5),n) cs) (fi:zRb (y,(l0,l1,l2,l3,l4,l5),n)=false) (f1:zua y) (fl:l0.length≤2000000∧l1.length≤2000000) (fn:SpecNM k (y,(l0,l1,l2,l3,l4,l5),n) m false):
  Calls Tryz.prog 7 #[.agg cs.toArray] w fun e w'=>∃ds es:List Value,e= .returned (.tuple #[.agg ds.toArray,.agg es.toArray,.bool false])∧Two w w' kDisk (l0,l1) ds k40 y es∧Below w.heap.size w w':=by
 have KS0:=h
 obtain ⟨cM,_,rfl,hM,cW_,cI,rfl,hW_,hI⟩:=h
 obtain rfl:cI=[.int .i64 n]:=hI
 obtain ⟨u0,_,rfl,hU0,u1,cW2,rfl,hU1,hW2⟩:=hW_
 have hV0:=hU0
 have hV1:=hU1
 obtain ⟨B0,d0,rfl,-,-⟩:=hU0
 obtain ⟨B1,d1,rfl,-,-⟩:=hU1
 obtain ⟨cs,hcs⟩:∃cs,cs=cM++([.slice B0 l0.length d0]++([.slice B1 l1.length d1]++(cW2++[.int .i64 n]))):=⟨_,rfl⟩
 simp only [List.append_assoc] at KS0 ⊢
 rw [←hcs] at KS0 ⊢
 have Ecs:=zz hcs
 have KS:=zz KS0
 have KM:=zz hM;have KW0:=zz (show (Own.srow 9 Kd.string).K w l0 [.slice B0 l0.length d0] from hV0);have KW1:=zz (show (Own.srow 110 k110).K w l1 [.slice B1 l1.length d1] from hV1)
 have LM:=zz (show cM.length=4 from Kd.K_len _ hM);have Lcs:=zz (show cs.length=11 from Kd.K_len _ KS0)
 have FI:=zz fi;clear fi
 have F1:=zz f1;clear f1
 have FL:=zz fl;clear fl
 have FN:=zz fn;clear fn
 clear KS0 hM hV0 hV1 hW2 hcs
 have O:=zz (z3a w.heap.size)
 have E:=zz (Env.start w)
 go_enter Tryz.func7,Tryz.ntmps7
 go_wp2_with (first|((with_reducible refine zd (N:=11) rfl ?_);replace O:=zz (And.intro E.1.le O.1);replace E:=zz (E.1.alloc cs 46 (g:=w.heap.size) rfl);replace E:=zz (E.1.alloc [.slice none 0 0,.slice none 0 0] 37 (g:=(w.heap.size+1)) zq38);replace E:=zz (E.1.alloc Z40 40 (g:=(w.heap.size+1+1)) zq38);refine zf rfl 46 _ rfl w.heap.size 0 [] cs [] _ rfl (E.1.box 2 rfl) zq6 (rfl) Tryz.underlying46 rfl zq59 ?_))
 ((with_reducible refine (idleS_d y l0 l1 l2 l3 l4 l5 n false _ (E.1.K KS.1) FI.1).mono ?_);rintro e w1_ ⟨rfl,hb⟩)
 replace E:=zz (E.1.call hb);clear hb
 go_wp2_with (first|((with_reducible refine zd (N:=21) rfl ?_);refine zf rfl 46 _ rfl w.heap.size 0 [] cs [] _ rfl (E.1.box 2 rfl) zq6 (rfl) Tryz.underlying46 rfl zq59 ?_))
 ((with_reducible refine (specNM_c k (y,(l0,l1,l2,l3,l4,l5),n) m false _ (E.1.K KS.1) FN.1).mono ?_);rintro e w5 ⟨d2,rfl,M0,hb⟩)
 have q:=E.1.made4 O.1 4 rfl M0 hb;clear O E M0 hb;obtain ⟨n4_,m5_,L0,Q0,O,E⟩:=q
 go_upto_region 5 with (first|((with_reducible refine zm (t:=40) (p:=5) rfl ?_);replace O:=zz (And.intro E.1.le O.1);replace E:=zz (E.1.alloc Z40 40 (g:=w5.heap.size) rfl);refine zn rfl 40 _ _ rfl rfl w5.heap.size 0 d2 [] Z40 [] rfl rfl (E.1.box 0 rfl) zq6 (rfl) (zq40 L0.1) (zq24 L0.1) Q0.1 ?_;intro W6_ hp hn;replace E:=E.1.put2 0 hp hn zq7;clear hp hn))
 replace E:=zz E.1.drew
 refine zfa commitS_B_ok5_0 (S:=fun w'=>w'.heap[w.heap.size]?=some (.cells (cs:List Value).toArray 46 (0,0))∧True) zq13 (fun _ _ _ _ h=>h) ⟨(E.1.box 4 rfl),trivial⟩ (fun hHeld=> ?_)
 generalize hq:World.drew _=w7_ at hHeld ⊢;replace E:=E.1.to hq;clear hq
 iterate 2 (refine zM (v:= ?_) (a':= ?_) rfl rfl (Or.inl ⟨zq22,zq12⟩) zq2 ?_)
 refine zB (a':= ?_) rfl rfl zq22 37 _ rfl w.heap.size 4 cM [.slice B0 l0.length d0,.slice B1 l1.length d1] (cW2++[.int .i64 n]) _ rfl (fun w' hs=>hs.1) zq19 (LM.1) Tryz.underlying37 rfl zq13 zq2 ?_
 (refine zM (v:= ?_) (a':= ?_) rfl rfl (Or.inl ⟨zq22,zq12⟩) zq2 ?_)
 refine zB (a':= ?_) rfl rfl zq22 40 _ rfl w.heap.size 0 [] cM ([.slice B0 l0.length d0]++([.slice B1 l1.length d1]++(cW2++[.int .i64 n]))) _ rfl (fun w' hs=>hs.1) zq19 (rfl) Tryz.underlying40 rfl zq89 zq2 ?_
 refine zS rfl (zC rfl Tryz.func36 zq13 rfl #[.agg [.slice B0 l0.length d0,.slice B1 l1.length d1].toArray] zq22 rfl zq14 ?_)
 with_reducible refine (zWb l0 l1 _ (zsa (E.1.K KW0.1) (E.1.K KW1.1)) FL.1).mono ?_
 rintro e wr5o3_ ⟨dr5o3__,rfl,Mdr5o3__,hb⟩
 have q:=E.1.made4 O.1 2 rfl Mdr5o3__ hb;clear O E Mdr5o3__ hb;obtain ⟨nr5o3___,mr5o3____,Ldr5o3__,Odr5o3__,O,E⟩:=q
 refine ⟨_,rfl,⟨(E.1.box 5 rfl),trivial⟩,(fun hHeld=> ?_)⟩
 refine zw (a':= ?_) zq2 ?_
 refine zS rfl (zC rfl Tryz.func34 zq13 rfl #[.agg cM.toArray] zq22 rfl zq14 ?_)
 with_reducible refine (zkb y y _ (E.1.K KM.1) ⟨rfl,F1.1⟩).mono ?_
 rintro e wr5o6_ ⟨dr5o6__,rfl,Mdr5o6__,hb⟩
 have q:=E.1.made4 O.1 4 rfl Mdr5o6__ hb;clear O E Mdr5o6__ hb;obtain ⟨nr5o6___,mr5o6____,Ldr5o6__,Odr5o6__,O,E⟩:=q
 refine ⟨_,rfl,⟨(E.1.box 6 rfl),trivial⟩,(fun hHeld=> ?_)⟩
 refine zw (a':= ?_) zq2 ?_
 refine zS rfl (zA rfl zq22 37 _ _ rfl (w.heap.size+1) 0 dr5o3__ [] [.slice none 0 0,.slice none 0 0] [] rfl rfl (E.1.box 5 rfl) zq6 (rfl) (zq40 Ldr5o3__.1) (zq24 Ldr5o3__.1) Odr5o3__.1 (fun Wr5o7_ hp hn=> ?_))
 replace E:=E.1.put2 5 hp hn zq7;clear hp hn
 refine ⟨⟨(E.1.box 6 rfl),trivial⟩,(fun hHeld=> ?_)⟩
 refine zS rfl (zA rfl zq22 40 _ _ rfl (w.heap.size+1+1) 0 dr5o6__ [] Z40 [] rfl rfl (E.1.box 4 rfl) zq6 (rfl) (zq40 Ldr5o6__.1) (zq24 Ldr5o6__.1) Odr5o6__.1 (fun Wr5o8_ hp hn=> ?_))
 replace E:=E.1.put2 4 hp hn zq7;clear hp hn
 refine ⟨⟨(E.1.box 6 rfl),trivial⟩,(fun hHeld=> ?_)⟩
 (refine zM (v:= ?_) (a':= ?_) rfl rfl (Or.inl ⟨zq22,zq12⟩) zq2 ?_)
 refine zX ?_
 clear hHeld
 obtain ⟨t5_,ht⟩:∃t,t=mr5o6____:=⟨_,rfl⟩
 replace E:=zz (Env.atTop E.1 ht)
 replace O:=zz (And.intro ht (And.intro E.1.le O.1));clear ht
 go_wp2_with fail
 have BX:=zz (show _=some (Obj.cells (dr5o3__:List Value).toArray 37 (0,0)) from by first|exact (E.1.box 5 rfl)|simpa only [aA,aN,aL] using (E.1.box 5 rfl))
 have BX2:=zz (show _=some (Obj.cells (dr5o6__:List Value).toArray 40 (0,0)) from by first|exact (E.1.box 4 rfl)|simpa only [aA,aN,aL] using (E.1.box 4 rfl))
 refine bodyPost_ret (zG (rs:=[.cell 2 37,.cell 3 40,.tmp 4]) rfl zq38 (.cell (w.heap.size+1) 37 _ _ _ rfl BX.1 Tryz.underlying37 rfl (by rw [List.size_toArray,show (dr5o3__:List Value).length=2 from Ldr5o3__.1];kernel_rfl) (.cell (w.heap.size+1+1) 40 _ _ _ rfl BX2.1 Tryz.underlying40 rfl (by rw [List.size_toArray,show (dr5o6__:List Value).length=4 from Ldr5o6__.1];kernel_rfl) (.tmp .nil)))) rfl ?_
 exact ⟨_,_,rfl,⟨nr5o3___,mr5o3____,nr5o6___,mr5o6____,zq67,(E.1.made 1 rfl),(E.1.made 0 rfl)⟩,E.1.below⟩
def commitS_C_T7:Bool×List (List Nat×List Nat):=(true,[([],[]),([0],[0]),([1],[1]),([2],[2]),([],[]),([4],[4]),([5,3],[5]),([],[]),([3,6,7,6],[3,6,7]),([8],[8]),([9],[9]),([9],[9]),([],[]),([12,10,8,0,1,2,3,4,5,6,7,8,9,10,12],[10,12]),([11,13,0,1,2,3,4,5,6,7,8,9,10,11,12,13],[11])])
def commitS_C_B7:List Nat:=[0,1,3,7,0,16,63,0,255,511,1023,1023,0,6143,16383]
theorem commitS_C_ok7_0:regT (zFa Tryz.f7 7) commitS_C_T7 commitS_C_B7 [13] (.p 0 (.p 1 (.t 2 (.p 4 (.t 5 (.p 7 (.two 3 12 (.two 6 12 (.two 8 12 (.p 9 (.p 10 (.p 11 (.e 12 (.l 13 (.p 14 .d)))))) (.e 8 (.p 9 (.p 10 (.p 11 (.l 13 (.p 14 .d))))))) (.e 6 (.e 8 (.p 9 (.p 10 (.p 11 (.l 13 (.p 14 .d)))))))) (.e 3 (.e 6 (.e 8 (.p 9 (.p 10 (.p 11 (.l 13 (.p 14 .d)))))))))))))))=true:=zq13
def commitS_C_T9:Bool×List (List Nat×List Nat):=(true,[([],[]),([0],[0]),([1],[1]),([2],[2]),([],[]),([4],[4]),([5,3],[5]),([3,6,0,1,2,3],[3]),([6,7,0,1,2,3,4,5,6,7],[6]),([8,0,1,2,3,4,5,6,7,8],[])])
def commitS_C_B9:List Nat:=[0,1,3,7,0,16,63,127,255,511]
theorem commitS_C_ok9_1:regT (zFa Tryz.f7 9) commitS_C_T9 commitS_C_B9 [] (.p 0 (.p 1 (.t 2 (.p 4 (.t 5 (.e 3 (.e 6 (.e 7 (.e 8 (.p 9 .d))))))))))=true:=zq13
theorem commitS_C (k:Nat) (y:S40) (l0:List ByteArray) (l1:List S110) (l2:Int) (l3 l4 l5:List Int) (n:Int) (m:S40) (t:ByteArray) (ok:Bool) (e0:List ByteArray) (e1:List S110) {cs:List Value} (w:World) (h:kTxn.K w (y,(l0,l1,l2,l3,l4,l5),n) cs) (fi:zRb (y,(l0,l1,l2,l3,l4,l5),n)=false) (f1:zua y) (fl:l0.length≤2000000∧l1.length≤2000000) (fn:SpecNM k (y,(l0,l1,l2,l3,l4,l5),n) m true) (ft:∃(vt:Int→ByteArray) (sl:ByteArray→ByteArray),TxF k vt sl∧MTxt vt sl m t ok) (fs:spec_SyncDisk.f k l0 l1=some (e0,e1)) (fx:0≤m.f0∧m.f0≤100000) (fe:e0.length≤2000000∧e1.length≤2000000) (fd:spec_DiskOk.f k e0 e1=some false):
  Calls Tryz.prog 7 #[.agg cs.toArray] w fun e w'=>∃ds es:List Value,e= .returned (.tuple #[.agg ds.toArray,.agg es.toArray,.bool false])∧Two w w' kDisk (l0,l1) ds k40 y es∧Below w.heap.size w w':=by
 have KS0:=h
 obtain ⟨cM,_,rfl,hM,cW_,cI,rfl,hW_,hI⟩:=h
 obtain rfl:cI=[.int .i64 n]:=hI
 obtain ⟨u0,_,rfl,hU0,u1,cW2,rfl,hU1,hW2⟩:=hW_
 have hV0:=hU0
 have hV1:=hU1
 obtain ⟨B0,d0,rfl,-,-⟩:=hU0
 obtain ⟨B1,d1,rfl,-,-⟩:=hU1
 obtain ⟨cs,hcs⟩:∃cs,cs=cM++([.slice B0 l0.length d0]++([.slice B1 l1.length d1]++(cW2++[.int .i64 n]))):=⟨_,rfl⟩
 simp only [List.append_assoc] at KS0 ⊢
 rw [←hcs] at KS0 ⊢
 have Ecs:=zz hcs
 have KS:=zz KS0
 have KM:=zz hM;have KW0:=zz (show (Own.srow 9 Kd.string).K w l0 [.slice B0 l0.length d0] from hV0);have KW1:=zz (show (Own.srow 110 k110).K w l1 [.slice B1 l1.length d1] from hV1)
 have LM:=zz (show cM.length=4 from Kd.K_len _ hM);have Lcs:=zz (show cs.length=11 from Kd.K_len _ KS0)
 have FI:=zz fi;clear fi
 have F1:=zz f1;clear f1
 have FL:=zz fl;clear fl
 have FN:=zz fn;clear fn
 have FT:=zz ft;clear ft
 have FS:=zz fs;clear fs
 have FX:=zz fx;clear fx
 have FE:=zz fe;clear fe
 have FD:=zz fd;clear fd
 clear KS0 hM hV0 hV1 hW2 hcs
 have O:=zz (z3a w.heap.size)
 have E:=zz (Env.start w)
 go_enter Tryz.func7,Tryz.ntmps7
 go_wp2_with (first|((with_reducible refine zd (N:=11) rfl ?_);replace O:=zz (And.intro E.1.le O.1);replace E:=zz (E.1.alloc cs 46 (g:=w.heap.size) rfl);replace E:=zz (E.1.alloc [.slice none 0 0,.slice none 0 0] 37 (g:=(w.heap.size+1)) zq38);replace E:=zz (E.1.alloc Z40 40 (g:=(w.heap.size+1+1)) zq38);refine zf rfl 46 _ rfl w.heap.size 0 [] cs [] _ rfl (E.1.box 2 rfl) zq6 (rfl) Tryz.underlying46 rfl zq59 ?_))
 ((with_reducible refine (idleS_d y l0 l1 l2 l3 l4 l5 n false _ (E.1.K KS.1) FI.1).mono ?_);rintro e w1_ ⟨rfl,hb⟩)
 replace E:=zz (E.1.call hb);clear hb
 go_wp2_with (first|((with_reducible refine zd (N:=21) rfl ?_);refine zf rfl 46 _ rfl w.heap.size 0 [] cs [] _ rfl (E.1.box 2 rfl) zq6 (rfl) Tryz.underlying46 rfl zq59 ?_))
 ((with_reducible refine (specNM_c k (y,(l0,l1,l2,l3,l4,l5),n) m true _ (E.1.K KS.1) FN.1).mono ?_);rintro e w5 ⟨d2,rfl,M0,hb⟩)
 have L0:=zz (show d2.length=4 from Kd.K_len _ (Kd.K_of_M _ M0));have Q0:=zz (zU (Kd.K_of_M _ M0))
 obtain ⟨n4_,m5_,hT,hE⟩:=E.1.made_ M0 hb;replace O:=zz (And.intro hT O.1);replace E:=zz hE;clear hT hE M0 hb
 obtain ⟨AG,cG,hg⟩:=meta_lit (E.1.made 0 rfl);have Ed3_:=zz hg;clear hg
 go_wp2_with (first|((with_reducible refine zm (t:=40) (p:=5) rfl ?_);replace O:=zz (And.intro E.1.le O.1);replace E:=zz (E.1.alloc Z40 40 (g:=w5.heap.size) rfl);refine zn rfl 40 _ _ rfl rfl w5.heap.size 0 d2 [] Z40 [] rfl rfl (E.1.box 0 rfl) zq6 (rfl) (zq40 L0.1) (zq24 L0.1) Q0.1 ?_;intro W6_ hp hn;replace E:=E.1.put2 0 hp hn zq7;clear hp hn)|((with_reducible refine zd (N:=35) rfl ?_);refine zf rfl 40 _ rfl w5.heap.size 0 [] d2 [] _ rfl (E.1.box 0 rfl) zq6 (rfl) Tryz.underlying40 rfl (zq24 L0.1) ?_))
 ((with_reducible refine (metaTextS_c k m t ok _ (E.1.mk_ 1 rfl) FT.1).mono ?_);rintro e w7_ ⟨rfl,hb⟩)
 replace E:=zz (E.1.call hb);clear hb
 go_upto_region 7 with (fail)
 replace E:=zz E.1.drew
 refine zfa commitS_C_ok7_0 (S:=fun w'=>w'.heap[w.heap.size]?=some (.cells (cs:List Value).toArray 46 (0,0))∧w'.heap[w5.heap.size]?=some (.cells (([]++(d2++[])):List Value).toArray 40 (0,0))∧True) zq13 (fun _ _ _ _ h=>h) ⟨(E.1.box 4 rfl),(E.1.box 0 rfl),trivial⟩ (fun hHeld=> ?_)
 generalize hq:World.drew _=w6 at hHeld ⊢;replace E:=E.1.to hq;clear hq
 iterate 2 (refine zM (v:= ?_) (a':= ?_) rfl rfl (Or.inl ⟨zq22,zq12⟩) zq2 ?_)
 refine zB (a':= ?_) rfl rfl zq22 37 _ rfl w.heap.size 4 cM [.slice B0 l0.length d0,.slice B1 l1.length d1] (cW2++[.int .i64 n]) _ rfl (fun w' hs=>hs.1) zq19 (LM.1) Tryz.underlying37 rfl zq13 zq2 ?_
 (refine zM (v:= ?_) (a':= ?_) rfl rfl (Or.inl ⟨zq22,zq12⟩) zq2 ?_)
 refine zL (a':= ?_) rfl rfl zq22 3 _ rfl w5.heap.size 0 [] (.int .i64 m.f0) ([.int .i64 m.f1]++([.int .i64 m.f2]++[.slice AG m.f3.length cG])) _ rfl (fun w' hs=>hs.2.1) (zq62 Ed3_.1) (rfl) Tryz.underlying3 rfl zq2 ?_
 (refine zM (v:= ?_) (a':= ?_) rfl rfl (Or.inl ⟨zq22,zq12⟩) zq2 ?_)
 refine zob rfl rfl (zC rfl Tryz.func33 zq13 rfl #[.agg [.slice B0 l0.length d0,.slice B1 l1.length d1].toArray] zq22 rfl zq14 ?_) (zAa rfl zq22 37 rfl [.slice none 0 0,.slice none 0 0] zq13 ?_)
 focus
  with_reducible refine (zqb k l0 l1 e0 e1 _ (zsa (E.1.K KW0.1) (E.1.K KW1.1)) FS.1).mono ?_
  rintro e wr7o3_ ⟨dr7o3__,rfl,Mdr7o3__,hb⟩
  have q:=E.1.made4 O.1 2 rfl Mdr7o3__ hb;clear O E Mdr7o3__ hb;obtain ⟨nr7o3___,mr7o3____,Ldr7o3__,Odr7o3__,O,E⟩:=q
  refine ⟨_,rfl,⟨(E.1.box 5 rfl),(E.1.box 1 rfl),trivial⟩,(fun hHeld=> ?_)⟩
  refine zw (a':= ?_) zq2 ?_
  refine zob rfl rfl (zC rfl Tryz.func39 zq13 rfl #[.int .i64 m.f0] zq22 rfl zq14 ?_) (zAa rfl zq22 37 rfl [.slice none 0 0,.slice none 0 0] zq13 ?_)
  focus
   with_reducible refine (pageS_c m.f0 _ FX.1).mono ?_
   rintro e wr7o6_ ⟨rfl,hb⟩
   replace E:=zz (E.1.call hb);clear hb
   refine ⟨_,rfl,⟨(E.1.box 5 rfl),(E.1.box 1 rfl),trivial⟩,(fun hHeld=> ?_)⟩
   refine zw (a':= ?_) zq2 ?_
   refine zob rfl rfl (zC rfl Tryz.func38 zq13 rfl #[.agg dr7o3__.toArray,.int .i64 (m.f0%2),.string t] zq22 rfl zq14 ?_) (zAa rfl zq22 37 rfl [.slice none 0 0,.slice none 0 0] zq13 ?_)
   focus
    with_reducible refine (writeS_no k e0 e1 (m.f0%2) t _ (E.1.mk_ 0 rfl) FE.1 FD.1).mono ?_
    rintro e wr7o8_ ⟨dr7o8__,rfl,Mdr7o8__,hb⟩
    have q:=E.1.made4 O.1 2 rfl Mdr7o8__ hb;clear O E Mdr7o8__ hb;obtain ⟨nr7o8___,mr7o8____,Ldr7o8__,Odr7o8__,O,E⟩:=q
    refine ⟨_,rfl,⟨(E.1.box 6 rfl),(E.1.box 2 rfl),trivial⟩,(fun hHeld=> ?_)⟩
    refine zw (a':= ?_) zq2 ?_
    iterate 3 (refine zM (v:= ?_) (a':= ?_) rfl rfl (Or.inl ⟨zq22,zq12⟩) zq2 ?_)
    refine zS rfl (zAa rfl zq22 37 rfl [.slice none 0 0,.slice none 0 0] zq13 ?_)
    replace O:=zz (And.intro E.1.le O.1)
    replace E:=zz (E.1.alloc [.slice none 0 0,.slice none 0 0] 37 (g:=wr7o8_.heap.size) rfl)
    refine ⟨⟨(E.1.box 7 rfl),(E.1.box 3 rfl),trivial⟩,(fun hHeld=> ?_)⟩
    refine zw (a':= ?_) zq2 ?_
    generalize (wr7o8_.alloc (.cells [.slice none 0 0,.slice none 0 0].toArray 37))=wr7o12_ at E hHeld ⊢
    generalize wr7o8_.heap.size=gr7o12 at O E hHeld ⊢
    refine tre_l rfl (zA rfl zq22 37 _ _ rfl gr7o12 0 dr7o8__ [] [.slice none 0 0,.slice none 0 0] [] rfl rfl (E.1.box 0 rfl) zq6 (rfl) (zq40 Ldr7o8__.1) (zq24 Ldr7o8__.1) Odr7o8__.1 (fun Wr7o13_ hp hn=> ?_))
    replace E:=E.1.put2 0 hp hn zq7;clear hp hn
    (refine zM (v:= ?_) (a':= ?_) rfl rfl (Or.inl ⟨zq22,zq12⟩) zq2 ?_)
    refine zX ?_
    clear hHeld
    obtain ⟨t0,ht⟩:∃t,t=(gr7o12+1):=⟨_,rfl⟩
    replace E:=zz (Env.atTop E.1 ht)
    replace O:=zz (And.intro ht (And.intro E.1.le O.1));clear ht
   rotate_left
   focus
    replace O:=zz (And.intro E.1.le O.1)
    replace E:=zz (E.1.alloc [.slice none 0 0,.slice none 0 0] 37 (g:=wr7o6_.heap.size) rfl)
    refine ⟨⟨(E.1.box 6 rfl),(E.1.box 2 rfl),trivial⟩,(fun hHeld=> ?_)⟩
    refine zw (a':= ?_) zq2 ?_
    generalize (wr7o6_.alloc (.cells [.slice none 0 0,.slice none 0 0].toArray 37))=wr7o12_ at E hHeld ⊢
    generalize wr7o6_.heap.size=gr7o12 at O E hHeld ⊢
    refine zS rfl (zC rfl Tryz.func38 zq13 rfl #[.agg dr7o3__.toArray,.int .i64 (m.f0%2),.string t] zq22 rfl zq14 ?_)
    with_reducible refine (writeS_no k e0 e1 (m.f0%2) t _ (E.1.mk_ 1 rfl) FE.1 FD.1).mono ?_
    rintro e wr7o8_ ⟨dr7o8__,rfl,Mdr7o8__,hb⟩
    have q:=E.1.made4 O.1 2 rfl Mdr7o8__ hb;clear O E Mdr7o8__ hb;obtain ⟨nr7o8___,mr7o8____,Ldr7o8__,Odr7o8__,O,E⟩:=q
    refine ⟨_,rfl,⟨(E.1.box 7 rfl),(E.1.box 3 rfl),trivial⟩,(fun hHeld=> ?_)⟩
    refine zw (a':= ?_) zq2 ?_
    iterate 3 (refine zM (v:= ?_) (a':= ?_) rfl rfl (Or.inl ⟨zq22,zq12⟩) zq2 ?_)
    refine tre_l rfl (zA rfl zq22 37 _ _ rfl gr7o12 0 dr7o8__ [] [.slice none 0 0,.slice none 0 0] [] rfl rfl (E.1.box 1 rfl) zq6 (rfl) (zq40 Ldr7o8__.1) (zq24 Ldr7o8__.1) Odr7o8__.1 (fun Wr7o13_ hp hn=> ?_))
    replace E:=E.1.put2 1 hp hn zq7;clear hp hn
    (refine zM (v:= ?_) (a':= ?_) rfl rfl (Or.inl ⟨zq22,zq12⟩) zq2 ?_)
    refine zX ?_
    clear hHeld
    obtain ⟨t0,ht⟩:∃t,t=mr7o8____:=⟨_,rfl⟩
    replace E:=zz (Env.atTop E.1 ht)
    replace O:=zz (And.intro ht (And.intro E.1.le O.1));clear ht
    have e:Env w _ _ [_,_,_,_,_,_,_,_]:=E.1.pick [(1,_),(0,_),(2,_),(3,_),(4,_),(5,_),(6,_),(7,_)] ⟨rfl,rfl,rfl,rfl,rfl,rfl,rfl,rfl,trivial⟩;clear E;have E:=zz e;clear e
  rotate_left 2
  focus
   replace O:=zz (And.intro E.1.le O.1)
   replace E:=zz (E.1.alloc [.slice none 0 0,.slice none 0 0] 37 (g:=wr7o3_.heap.size) rfl)
   refine ⟨⟨(E.1.box 6 rfl),(E.1.box 2 rfl),trivial⟩,(fun hHeld=> ?_)⟩
   refine zw (a':= ?_) zq2 ?_
   generalize (wr7o3_.alloc (.cells [.slice none 0 0,.slice none 0 0].toArray 37))=wr7o12_ at E hHeld ⊢
   generalize wr7o3_.heap.size=gr7o12 at O E hHeld ⊢
   refine zS rfl (zC rfl Tryz.func39 zq13 rfl #[.int .i64 m.f0] zq22 rfl zq14 ?_)
   with_reducible refine (pageS_c m.f0 _ FX.1).mono ?_
   rintro e wr7o6_ ⟨rfl,hb⟩
   replace E:=zz (E.1.call hb);clear hb
   refine ⟨_,rfl,⟨(E.1.box 6 rfl),(E.1.box 2 rfl),trivial⟩,(fun hHeld=> ?_)⟩
   refine zw (a':= ?_) zq2 ?_
   refine zS rfl (zC rfl Tryz.func38 zq13 rfl #[.agg dr7o3__.toArray,.int .i64 (m.f0%2),.string t] zq22 rfl zq14 ?_)
   with_reducible refine (writeS_no k e0 e1 (m.f0%2) t _ (E.1.mk_ 1 rfl) FE.1 FD.1).mono ?_
   rintro e wr7o8_ ⟨dr7o8__,rfl,Mdr7o8__,hb⟩
   have q:=E.1.made4 O.1 2 rfl Mdr7o8__ hb;clear O E Mdr7o8__ hb;obtain ⟨nr7o8___,mr7o8____,Ldr7o8__,Odr7o8__,O,E⟩:=q
   refine ⟨_,rfl,⟨(E.1.box 7 rfl),(E.1.box 3 rfl),trivial⟩,(fun hHeld=> ?_)⟩
   refine zw (a':= ?_) zq2 ?_
   iterate 3 (refine zM (v:= ?_) (a':= ?_) rfl rfl (Or.inl ⟨zq22,zq12⟩) zq2 ?_)
   refine tre_l rfl (zA rfl zq22 37 _ _ rfl gr7o12 0 dr7o8__ [] [.slice none 0 0,.slice none 0 0] [] rfl rfl (E.1.box 1 rfl) zq6 (rfl) (zq40 Ldr7o8__.1) (zq24 Ldr7o8__.1) Odr7o8__.1 (fun Wr7o13_ hp hn=> ?_))
   replace E:=E.1.put2 1 hp hn zq7;clear hp hn
   (refine zM (v:= ?_) (a':= ?_) rfl rfl (Or.inl ⟨zq22,zq12⟩) zq2 ?_)
   refine zX ?_
   clear hHeld
   obtain ⟨t0,ht⟩:∃t,t=mr7o8____:=⟨_,rfl⟩
   replace E:=zz (Env.atTop E.1 ht)
   replace O:=zz (And.intro ht (And.intro E.1.le O.1));clear ht
   have e:Env w _ _ [_,_,_,_,_,_,_,_]:=E.1.pick [(1,_),(0,_),(2,_),(3,_),(4,_),(5,_),(6,_),(7,_)] ⟨rfl,rfl,rfl,rfl,rfl,rfl,rfl,rfl,trivial⟩;clear E;have E:=zz e;clear e
 rotate_left 3
 focus
  replace O:=zz (And.intro E.1.le O.1)
  replace E:=zz (E.1.alloc [.slice none 0 0,.slice none 0 0] 37 (g:=w6.heap.size) rfl)
  refine ⟨⟨(E.1.box 5 rfl),(E.1.box 1 rfl),trivial⟩,(fun hHeld=> ?_)⟩
  refine zw (a':= ?_) zq2 ?_
  generalize (w6.alloc (.cells [.slice none 0 0,.slice none 0 0].toArray 37))=wr7o12_ at E hHeld ⊢
  generalize w6.heap.size=gr7o12 at O E hHeld ⊢
  refine zS rfl (zC rfl Tryz.func33 zq13 rfl #[.agg [.slice B0 l0.length d0,.slice B1 l1.length d1].toArray] zq22 rfl zq14 ?_)
  with_reducible refine (zqb k l0 l1 e0 e1 _ (zsa (E.1.K KW0.1) (E.1.K KW1.1)) FS.1).mono ?_
  rintro e wr7o3_ ⟨dr7o3__,rfl,Mdr7o3__,hb⟩
  have q:=E.1.made4 O.1 2 rfl Mdr7o3__ hb;clear O E Mdr7o3__ hb;obtain ⟨nr7o3___,mr7o3____,Ldr7o3__,Odr7o3__,O,E⟩:=q
  refine ⟨_,rfl,⟨(E.1.box 6 rfl),(E.1.box 2 rfl),trivial⟩,(fun hHeld=> ?_)⟩
  refine zw (a':= ?_) zq2 ?_
  refine zS rfl (zC rfl Tryz.func39 zq13 rfl #[.int .i64 m.f0] zq22 rfl zq14 ?_)
  with_reducible refine (pageS_c m.f0 _ FX.1).mono ?_
  rintro e wr7o6_ ⟨rfl,hb⟩
  replace E:=zz (E.1.call hb);clear hb
  refine ⟨_,rfl,⟨(E.1.box 6 rfl),(E.1.box 2 rfl),trivial⟩,(fun hHeld=> ?_)⟩
  refine zw (a':= ?_) zq2 ?_
  refine zS rfl (zC rfl Tryz.func38 zq13 rfl #[.agg dr7o3__.toArray,.int .i64 (m.f0%2),.string t] zq22 rfl zq14 ?_)
  with_reducible refine (writeS_no k e0 e1 (m.f0%2) t _ (E.1.mk_ 0 rfl) FE.1 FD.1).mono ?_
  rintro e wr7o8_ ⟨dr7o8__,rfl,Mdr7o8__,hb⟩
  have q:=E.1.made4 O.1 2 rfl Mdr7o8__ hb;clear O E Mdr7o8__ hb;obtain ⟨nr7o8___,mr7o8____,Ldr7o8__,Odr7o8__,O,E⟩:=q
  refine ⟨_,rfl,⟨(E.1.box 7 rfl),(E.1.box 3 rfl),trivial⟩,(fun hHeld=> ?_)⟩
  refine zw (a':= ?_) zq2 ?_
  iterate 3 (refine zM (v:= ?_) (a':= ?_) rfl rfl (Or.inl ⟨zq22,zq12⟩) zq2 ?_)
  refine tre_l rfl (zA rfl zq22 37 _ _ rfl gr7o12 0 dr7o8__ [] [.slice none 0 0,.slice none 0 0] [] rfl rfl (E.1.box 2 rfl) zq6 (rfl) (zq40 Ldr7o8__.1) (zq24 Ldr7o8__.1) Odr7o8__.1 (fun Wr7o13_ hp hn=> ?_))
  replace E:=E.1.put2 2 hp hn zq7;clear hp hn
  (refine zM (v:= ?_) (a':= ?_) rfl rfl (Or.inl ⟨zq22,zq12⟩) zq2 ?_)
  refine zX ?_
  clear hHeld
  obtain ⟨t0,ht⟩:∃t,t=mr7o8____:=⟨_,rfl⟩
  replace E:=zz (Env.atTop E.1 ht)
  replace O:=zz (And.intro ht (And.intro E.1.le O.1));clear ht
  have e:Env w _ _ [_,_,_,_,_,_,_,_]:=E.1.pick [(2,_),(0,_),(1,_),(3,_),(4,_),(5,_),(6,_),(7,_)] ⟨rfl,rfl,rfl,rfl,rfl,rfl,rfl,rfl,trivial⟩;clear E;have E:=zz e;clear e
 all_goals
  go_upto_region 9 with (fail)
  replace E:=zz E.1.drew
  refine zfa commitS_C_ok9_1 (S:=fun w'=>w'.heap[w.heap.size]?=some (.cells (cs:List Value).toArray 46 (0,0))∧True) zq13 (fun _ _ _ _ h=>h) ⟨(E.1.box 7 rfl),trivial⟩ (fun hHeld=> ?_)
  generalize hq:World.drew _=w9_ at hHeld ⊢;replace E:=E.1.to hq;clear hq
  iterate 2 (refine zM (v:= ?_) (a':= ?_) rfl rfl (Or.inl ⟨zq22,zq12⟩) zq2 ?_)
  refine zB (a':= ?_) rfl rfl zq22 37 _ rfl w.heap.size 4 cM [.slice B0 l0.length d0,.slice B1 l1.length d1] (cW2++[.int .i64 n]) _ rfl (fun w' hs=>hs.1) zq19 (LM.1) Tryz.underlying37 rfl zq13 zq2 ?_
  (refine zM (v:= ?_) (a':= ?_) rfl rfl (Or.inl ⟨zq22,zq12⟩) zq2 ?_)
  refine zB (a':= ?_) rfl rfl zq22 40 _ rfl w.heap.size 0 [] cM ([.slice B0 l0.length d0]++([.slice B1 l1.length d1]++(cW2++[.int .i64 n]))) _ rfl (fun w' hs=>hs.1) zq19 (rfl) Tryz.underlying40 rfl zq89 zq2 ?_
  refine zS rfl (zC rfl Tryz.func36 zq13 rfl #[.agg [.slice B0 l0.length d0,.slice B1 l1.length d1].toArray] zq22 rfl zq14 ?_)
  with_reducible refine (zWb l0 l1 _ (zsa (E.1.K KW0.1) (E.1.K KW1.1)) FL.1).mono ?_
  rintro e wr9o3_ ⟨dr9o3__,rfl,Mdr9o3__,hb⟩
  have q:=E.1.made4 O.1 2 rfl Mdr9o3__ hb;clear O E Mdr9o3__ hb;obtain ⟨nr9o3___,mr9o3____,Ldr9o3__,Odr9o3__,O,E⟩:=q
  refine ⟨_,rfl,⟨(E.1.box 8 rfl),trivial⟩,(fun hHeld=> ?_)⟩
  refine zw (a':= ?_) zq2 ?_
  refine zS rfl (zC rfl Tryz.func34 zq13 rfl #[.agg cM.toArray] zq22 rfl zq14 ?_)
  with_reducible refine (zkb y y _ (E.1.K KM.1) ⟨rfl,F1.1⟩).mono ?_
  rintro e wr9o6_ ⟨dr9o6__,rfl,Mdr9o6__,hb⟩
  have q:=E.1.made4 O.1 4 rfl Mdr9o6__ hb;clear O E Mdr9o6__ hb;obtain ⟨nr9o6___,mr9o6____,Ldr9o6__,Odr9o6__,O,E⟩:=q
  refine ⟨_,rfl,⟨(E.1.box 9 rfl),trivial⟩,(fun hHeld=> ?_)⟩
  refine zw (a':= ?_) zq2 ?_
  refine zS rfl (zA rfl zq22 37 _ _ rfl (w.heap.size+1) 0 dr9o3__ [] [.slice none 0 0,.slice none 0 0] [] rfl rfl (E.1.box 8 rfl) zq6 (rfl) (zq40 Ldr9o3__.1) (zq24 Ldr9o3__.1) Odr9o3__.1 (fun Wr9o7_ hp hn=> ?_))
  replace E:=E.1.put2 8 hp hn zq7;clear hp hn
  refine ⟨⟨(E.1.box 9 rfl),trivial⟩,(fun hHeld=> ?_)⟩
  refine zS rfl (zA rfl zq22 40 _ _ rfl (w.heap.size+1+1) 0 dr9o6__ [] Z40 [] rfl rfl (E.1.box 7 rfl) zq6 (rfl) (zq40 Ldr9o6__.1) (zq24 Ldr9o6__.1) Odr9o6__.1 (fun Wr9o8_ hp hn=> ?_))
  replace E:=E.1.put2 7 hp hn zq7;clear hp hn
  refine ⟨⟨(E.1.box 9 rfl),trivial⟩,(fun hHeld=> ?_)⟩
  (refine zM (v:= ?_) (a':= ?_) rfl rfl (Or.inl ⟨zq22,zq12⟩) zq2 ?_)
  refine zX ?_
  clear hHeld
  obtain ⟨t9_,ht⟩:∃t,t=mr9o6____:=⟨_,rfl⟩
  replace E:=zz (Env.atTop E.1 ht)
  replace O:=zz (And.intro ht (And.intro E.1.le O.1));clear ht
  go_wp2_with fail
  have BX:=zz (show _=some (Obj.cells (dr9o3__:List Value).toArray 37 (0,0)) from by first|exact (E.1.box 8 rfl)|simpa only [aA,aN,aL] using (E.1.box 8 rfl))
  have BX2:=zz (show _=some (Obj.cells (dr9o6__:List Value).toArray 40 (0,0)) from by first|exact (E.1.box 7 rfl)|simpa only [aA,aN,aL] using (E.1.box 7 rfl))
  refine bodyPost_ret (zG (rs:=[.cell 2 37,.cell 3 40,.tmp 4]) rfl zq38 (.cell (w.heap.size+1) 37 _ _ _ rfl BX.1 Tryz.underlying37 rfl (by rw [List.size_toArray,show (dr9o3__:List Value).length=2 from Ldr9o3__.1];kernel_rfl) (.cell (w.heap.size+1+1) 40 _ _ _ rfl BX2.1 Tryz.underlying40 rfl (by rw [List.size_toArray,show (dr9o6__:List Value).length=4 from Ldr9o6__.1];kernel_rfl) (.tmp .nil)))) rfl ?_
  exact ⟨_,_,rfl,⟨nr9o3___,mr9o3____,nr9o6___,mr9o6____,zq67,(E.1.made 1 rfl),(E.1.made 0 rfl)⟩,E.1.below⟩
def commitS_D_T7:Bool×List (List Nat×List Nat):=(true,[([],[]),([0],[0]),([1],[1]),([2],[2]),([],[]),([4],[4]),([5,3],[5]),([],[]),([3,6,7,6],[3,6,7]),([8],[8]),([9],[9]),([9],[9]),([],[]),([12,10,8,0,1,2,3,4,5,6,7,8,9,10,12],[10,12]),([11,13,0,1,2,3,4,5,6,7,8,9,10,11,12,13],[11])])
def commitS_D_B7:List Nat:=[0,1,3,7,0,16,63,0,255,511,1023,1023,0,6143,16383]
theorem commitS_D_ok7_0:regT (zFa Tryz.f7 7) commitS_D_T7 commitS_D_B7 [13] (.p 0 (.p 1 (.t 2 (.p 4 (.t 5 (.p 7 (.two 3 12 (.two 6 12 (.two 8 12 (.p 9 (.p 10 (.p 11 (.e 12 (.l 13 (.p 14 .d)))))) (.e 8 (.p 9 (.p 10 (.p 11 (.l 13 (.p 14 .d))))))) (.e 6 (.e 8 (.p 9 (.p 10 (.p 11 (.l 13 (.p 14 .d)))))))) (.e 3 (.e 6 (.e 8 (.p 9 (.p 10 (.p 11 (.l 13 (.p 14 .d)))))))))))))))=true:=zq13
def commitS_D_T10:Bool×List (List Nat×List Nat):=(true,[([],[]),([0],[0]),([],[]),([1,1,0,1],[1]),([2,3,0,1,2,3],[2]),([4,0,1,2,3,4],[])])
def commitS_D_B10:List Nat:=[0,1,0,3,15,31]
theorem commitS_D_ok10_1:regT (zFa Tryz.f7 10) commitS_D_T10 commitS_D_B10 [] (.t 0 (.t 2 (.e 1 (.e 3 (.e 4 (.p 5 .d))))))=true:=zq13
theorem commitS_D (k:Nat) (y:S40) (l0:List ByteArray) (l1:List S110) (l2:Int) (l3 l4 l5:List Int) (n:Int) (m:S40) (t:ByteArray) (ok:Bool) (e0:List ByteArray) (e1:List S110) (z:(List ByteArray×List S110)) (g0:List ByteArray) (g1:List S110) {cs:List Value} (w:World) (h:kTxn.K w (y,(l0,l1,l2,l3,l4,l5),n) cs) (fi:zRb (y,(l0,l1,l2,l3,l4,l5),n)=false) (fn:SpecNM k (y,(l0,l1,l2,l3,l4,l5),n) m true) (ft:∃(vt:Int→ByteArray) (sl:ByteArray→ByteArray),TxF k vt sl∧MTxt vt sl m t ok) (fs:spec_SyncDisk.f k l0 l1=some (e0,e1)) (fx:0≤m.f0∧m.f0≤100000) (fw:spec_WritePage.f k e0 e1 (m.f0%2) t=some (z.1,z.2,true)) (fs2:spec_SyncDisk.f k z.1 z.2=some (g0,g1)):
  Calls Tryz.prog 7 #[.agg cs.toArray] w fun e w'=>∃ds es:List Value,e= .returned (.tuple #[.agg ds.toArray,.agg es.toArray,.bool true])∧Two w w' kDisk (g0,g1) ds k40 m es∧Below w.heap.size w w':=by
 have KS0:=h
 obtain ⟨cM,_,rfl,hM,cW_,cI,rfl,hW_,hI⟩:=h
 obtain rfl:cI=[.int .i64 n]:=hI
 obtain ⟨u0,_,rfl,hU0,u1,cW2,rfl,hU1,hW2⟩:=hW_
 have hV0:=hU0
 have hV1:=hU1
 obtain ⟨B0,d0,rfl,-,-⟩:=hU0
 obtain ⟨B1,d1,rfl,-,-⟩:=hU1
 obtain ⟨cs,hcs⟩:∃cs,cs=cM++([.slice B0 l0.length d0]++([.slice B1 l1.length d1]++(cW2++[.int .i64 n]))):=⟨_,rfl⟩
 simp only [List.append_assoc] at KS0 ⊢
 rw [←hcs] at KS0 ⊢
 have Ecs:=zz hcs
 have KS:=zz KS0
 have KW0:=zz (show (Own.srow 9 Kd.string).K w l0 [.slice B0 l0.length d0] from hV0);have KW1:=zz (show (Own.srow 110 k110).K w l1 [.slice B1 l1.length d1] from hV1)
 have LM:=zz (show cM.length=4 from Kd.K_len _ hM);have Lcs:=zz (show cs.length=11 from Kd.K_len _ KS0)
 have FI:=zz fi;clear fi
 have FN:=zz fn;clear fn
 have FT:=zz ft;clear ft
 have FS:=zz fs;clear fs
 have FX:=zz fx;clear fx
 have FW:=zz fw;clear fw
 have FS2:=zz fs2;clear fs2
 clear KS0 hM hV0 hV1 hW2 hcs
 have O:=zz (z3a w.heap.size)
 have E:=zz (Env.start w)
 go_enter Tryz.func7,Tryz.ntmps7
 go_wp2_with (first|((with_reducible refine zd (N:=11) rfl ?_);replace O:=zz (And.intro E.1.le O.1);replace E:=zz (E.1.alloc cs 46 (g:=w.heap.size) rfl);replace E:=zz (E.1.alloc [.slice none 0 0,.slice none 0 0] 37 (g:=(w.heap.size+1)) zq38);replace E:=zz (E.1.alloc Z40 40 (g:=(w.heap.size+1+1)) zq38);refine zf rfl 46 _ rfl w.heap.size 0 [] cs [] _ rfl (E.1.box 2 rfl) zq6 (rfl) Tryz.underlying46 rfl zq59 ?_))
 ((with_reducible refine (idleS_d y l0 l1 l2 l3 l4 l5 n false _ (E.1.K KS.1) FI.1).mono ?_);rintro e w1_ ⟨rfl,hb⟩)
 replace E:=zz (E.1.call hb);clear hb
 go_wp2_with (first|((with_reducible refine zd (N:=21) rfl ?_);refine zf rfl 46 _ rfl w.heap.size 0 [] cs [] _ rfl (E.1.box 2 rfl) zq6 (rfl) Tryz.underlying46 rfl zq59 ?_))
 ((with_reducible refine (specNM_c k (y,(l0,l1,l2,l3,l4,l5),n) m true _ (E.1.K KS.1) FN.1).mono ?_);rintro e w5 ⟨d2,rfl,M0,hb⟩)
 have L0:=zz (show d2.length=4 from Kd.K_len _ (Kd.K_of_M _ M0));have Q0:=zz (zU (Kd.K_of_M _ M0))
 obtain ⟨n0,m10,hT,hE⟩:=E.1.made_ M0 hb;replace O:=zz (And.intro hT O.1);replace E:=zz hE;clear hT hE M0 hb
 obtain ⟨AG,cG,hg⟩:=meta_lit (E.1.made 0 rfl);have Ed3_:=zz hg;clear hg
 go_wp2_with (first|((with_reducible refine zm (t:=40) (p:=5) rfl ?_);replace O:=zz (And.intro E.1.le O.1);replace E:=zz (E.1.alloc Z40 40 (g:=w5.heap.size) rfl);refine zn rfl 40 _ _ rfl rfl w5.heap.size 0 d2 [] Z40 [] rfl rfl (E.1.box 0 rfl) zq6 (rfl) (zq40 L0.1) (zq24 L0.1) Q0.1 ?_;intro W6_ hp hn;replace E:=E.1.put2 0 hp hn zq7;clear hp hn)|((with_reducible refine zd (N:=35) rfl ?_);refine zf rfl 40 _ rfl w5.heap.size 0 [] d2 [] _ rfl (E.1.box 0 rfl) zq6 (rfl) Tryz.underlying40 rfl (zq24 L0.1) ?_))
 ((with_reducible refine (metaTextS_c k m t ok _ (E.1.mk_ 1 rfl) FT.1).mono ?_);rintro e w7_ ⟨rfl,hb⟩)
 replace E:=zz (E.1.call hb);clear hb
 go_upto_region 7 with (fail)
 replace E:=zz E.1.drew
 refine zfa commitS_D_ok7_0 (S:=fun w'=>w'.heap[w.heap.size]?=some (.cells (cs:List Value).toArray 46 (0,0))∧w'.heap[w5.heap.size]?=some (.cells (([]++(d2++[])):List Value).toArray 40 (0,0))∧True) zq13 (fun _ _ _ _ h=>h) ⟨(E.1.box 4 rfl),(E.1.box 0 rfl),trivial⟩ (fun hHeld=> ?_)
 generalize hq:World.drew _=w6 at hHeld ⊢;replace E:=E.1.to hq;clear hq
 iterate 2 (refine zM (v:= ?_) (a':= ?_) rfl rfl (Or.inl ⟨zq22,zq12⟩) zq2 ?_)
 refine zB (a':= ?_) rfl rfl zq22 37 _ rfl w.heap.size 4 cM [.slice B0 l0.length d0,.slice B1 l1.length d1] (cW2++[.int .i64 n]) _ rfl (fun w' hs=>hs.1) zq19 (LM.1) Tryz.underlying37 rfl zq13 zq2 ?_
 (refine zM (v:= ?_) (a':= ?_) rfl rfl (Or.inl ⟨zq22,zq12⟩) zq2 ?_)
 refine zL (a':= ?_) rfl rfl zq22 3 _ rfl w5.heap.size 0 [] (.int .i64 m.f0) ([.int .i64 m.f1]++([.int .i64 m.f2]++[.slice AG m.f3.length cG])) _ rfl (fun w' hs=>hs.2.1) (zq62 Ed3_.1) (rfl) Tryz.underlying3 rfl zq2 ?_
 (refine zM (v:= ?_) (a':= ?_) rfl rfl (Or.inl ⟨zq22,zq12⟩) zq2 ?_)
 refine zob rfl rfl (zC rfl Tryz.func33 zq13 rfl #[.agg [.slice B0 l0.length d0,.slice B1 l1.length d1].toArray] zq22 rfl zq14 ?_) (zAa rfl zq22 37 rfl [.slice none 0 0,.slice none 0 0] zq13 ?_)
 focus
  with_reducible refine (zqb k l0 l1 e0 e1 _ (zsa (E.1.K KW0.1) (E.1.K KW1.1)) FS.1).mono ?_
  rintro e wr7o3_ ⟨dr7o3__,rfl,Mdr7o3__,hb⟩
  have q:=E.1.made4 O.1 2 rfl Mdr7o3__ hb;clear O E Mdr7o3__ hb;obtain ⟨nr7o3___,mr7o3____,Ldr7o3__,Odr7o3__,O,E⟩:=q
  refine ⟨_,rfl,⟨(E.1.box 5 rfl),(E.1.box 1 rfl),trivial⟩,(fun hHeld=> ?_)⟩
  refine zw (a':= ?_) zq2 ?_
  refine zob rfl rfl (zC rfl Tryz.func39 zq13 rfl #[.int .i64 m.f0] zq22 rfl zq14 ?_) (zAa rfl zq22 37 rfl [.slice none 0 0,.slice none 0 0] zq13 ?_)
  focus
   with_reducible refine (pageS_c m.f0 _ FX.1).mono ?_
   rintro e wr7o6_ ⟨rfl,hb⟩
   replace E:=zz (E.1.call hb);clear hb
   refine ⟨_,rfl,⟨(E.1.box 5 rfl),(E.1.box 1 rfl),trivial⟩,(fun hHeld=> ?_)⟩
   refine zw (a':= ?_) zq2 ?_
   refine zob rfl rfl (zC rfl Tryz.func38 zq13 rfl #[.agg dr7o3__.toArray,.int .i64 (m.f0%2),.string t] zq22 rfl zq14 ?_) (zAa rfl zq22 37 rfl [.slice none 0 0,.slice none 0 0] zq13 ?_)
   focus
    with_reducible refine (writeS_t k (e0,e1) z (m.f0%2) t _ (E.1.mk_ 0 rfl) FW.1).mono ?_
    rintro e wr7o8_ ⟨dr7o8__,rfl,Mdr7o8__,hb⟩
    have q:=E.1.made4 O.1 2 rfl Mdr7o8__ hb;clear O E Mdr7o8__ hb;obtain ⟨nr7o8___,mr7o8____,Ldr7o8__,Odr7o8__,O,E⟩:=q
    refine ⟨_,rfl,⟨(E.1.box 6 rfl),(E.1.box 2 rfl),trivial⟩,(fun hHeld=> ?_)⟩
    refine zw (a':= ?_) zq2 ?_
    iterate 3 (refine zM (v:= ?_) (a':= ?_) rfl rfl (Or.inl ⟨zq22,zq12⟩) zq2 ?_)
    refine zS rfl (zAa rfl zq22 37 rfl [.slice none 0 0,.slice none 0 0] zq13 ?_)
    replace O:=zz (And.intro E.1.le O.1)
    replace E:=zz (E.1.alloc [.slice none 0 0,.slice none 0 0] 37 (g:=wr7o8_.heap.size) rfl)
    refine ⟨⟨(E.1.box 7 rfl),(E.1.box 3 rfl),trivial⟩,(fun hHeld=> ?_)⟩
    refine zw (a':= ?_) zq2 ?_
    generalize (wr7o8_.alloc (.cells [.slice none 0 0,.slice none 0 0].toArray 37))=wr7o12_ at E hHeld ⊢
    generalize wr7o8_.heap.size=gr7o12 at O E hHeld ⊢
    refine tre_l rfl (zA rfl zq22 37 _ _ rfl gr7o12 0 dr7o8__ [] [.slice none 0 0,.slice none 0 0] [] rfl rfl (E.1.box 0 rfl) zq6 (rfl) (zq40 Ldr7o8__.1) (zq24 Ldr7o8__.1) Odr7o8__.1 (fun Wr7o13_ hp hn=> ?_))
    replace E:=E.1.put2 0 hp hn zq7;clear hp hn
    (refine zM (v:= ?_) (a':= ?_) rfl rfl (Or.inl ⟨zq22,zq12⟩) zq2 ?_)
    refine zX ?_
    clear hHeld
    obtain ⟨t0,ht⟩:∃t,t=(gr7o12+1):=⟨_,rfl⟩
    replace E:=zz (Env.atTop E.1 ht)
    replace O:=zz (And.intro ht (And.intro E.1.le O.1));clear ht
   rotate_left
   focus
    replace O:=zz (And.intro E.1.le O.1)
    replace E:=zz (E.1.alloc [.slice none 0 0,.slice none 0 0] 37 (g:=wr7o6_.heap.size) rfl)
    refine ⟨⟨(E.1.box 6 rfl),(E.1.box 2 rfl),trivial⟩,(fun hHeld=> ?_)⟩
    refine zw (a':= ?_) zq2 ?_
    generalize (wr7o6_.alloc (.cells [.slice none 0 0,.slice none 0 0].toArray 37))=wr7o12_ at E hHeld ⊢
    generalize wr7o6_.heap.size=gr7o12 at O E hHeld ⊢
    refine zS rfl (zC rfl Tryz.func38 zq13 rfl #[.agg dr7o3__.toArray,.int .i64 (m.f0%2),.string t] zq22 rfl zq14 ?_)
    with_reducible refine (writeS_t k (e0,e1) z (m.f0%2) t _ (E.1.mk_ 1 rfl) FW.1).mono ?_
    rintro e wr7o8_ ⟨dr7o8__,rfl,Mdr7o8__,hb⟩
    have q:=E.1.made4 O.1 2 rfl Mdr7o8__ hb;clear O E Mdr7o8__ hb;obtain ⟨nr7o8___,mr7o8____,Ldr7o8__,Odr7o8__,O,E⟩:=q
    refine ⟨_,rfl,⟨(E.1.box 7 rfl),(E.1.box 3 rfl),trivial⟩,(fun hHeld=> ?_)⟩
    refine zw (a':= ?_) zq2 ?_
    iterate 3 (refine zM (v:= ?_) (a':= ?_) rfl rfl (Or.inl ⟨zq22,zq12⟩) zq2 ?_)
    refine tre_l rfl (zA rfl zq22 37 _ _ rfl gr7o12 0 dr7o8__ [] [.slice none 0 0,.slice none 0 0] [] rfl rfl (E.1.box 1 rfl) zq6 (rfl) (zq40 Ldr7o8__.1) (zq24 Ldr7o8__.1) Odr7o8__.1 (fun Wr7o13_ hp hn=> ?_))
    replace E:=E.1.put2 1 hp hn zq7;clear hp hn
    (refine zM (v:= ?_) (a':= ?_) rfl rfl (Or.inl ⟨zq22,zq12⟩) zq2 ?_)
    refine zX ?_
    clear hHeld
    obtain ⟨t0,ht⟩:∃t,t=mr7o8____:=⟨_,rfl⟩
    replace E:=zz (Env.atTop E.1 ht)
    replace O:=zz (And.intro ht (And.intro E.1.le O.1));clear ht
    have e:Env w _ _ [_,_,_,_,_,_,_,_]:=E.1.pick [(1,_),(0,_),(2,_),(3,_),(4,_),(5,_),(6,_),(7,_)] ⟨rfl,rfl,rfl,rfl,rfl,rfl,rfl,rfl,trivial⟩;clear E;have E:=zz e;clear e
  rotate_left 2
  focus
   replace O:=zz (And.intro E.1.le O.1)
   replace E:=zz (E.1.alloc [.slice none 0 0,.slice none 0 0] 37 (g:=wr7o3_.heap.size) rfl)
   refine ⟨⟨(E.1.box 6 rfl),(E.1.box 2 rfl),trivial⟩,(fun hHeld=> ?_)⟩
   refine zw (a':= ?_) zq2 ?_
   generalize (wr7o3_.alloc (.cells [.slice none 0 0,.slice none 0 0].toArray 37))=wr7o12_ at E hHeld ⊢
   generalize wr7o3_.heap.size=gr7o12 at O E hHeld ⊢
   refine zS rfl (zC rfl Tryz.func39 zq13 rfl #[.int .i64 m.f0] zq22 rfl zq14 ?_)
   with_reducible refine (pageS_c m.f0 _ FX.1).mono ?_
   rintro e wr7o6_ ⟨rfl,hb⟩
   replace E:=zz (E.1.call hb);clear hb
   refine ⟨_,rfl,⟨(E.1.box 6 rfl),(E.1.box 2 rfl),trivial⟩,(fun hHeld=> ?_)⟩
   refine zw (a':= ?_) zq2 ?_
   refine zS rfl (zC rfl Tryz.func38 zq13 rfl #[.agg dr7o3__.toArray,.int .i64 (m.f0%2),.string t] zq22 rfl zq14 ?_)
   with_reducible refine (writeS_t k (e0,e1) z (m.f0%2) t _ (E.1.mk_ 1 rfl) FW.1).mono ?_
   rintro e wr7o8_ ⟨dr7o8__,rfl,Mdr7o8__,hb⟩
   have q:=E.1.made4 O.1 2 rfl Mdr7o8__ hb;clear O E Mdr7o8__ hb;obtain ⟨nr7o8___,mr7o8____,Ldr7o8__,Odr7o8__,O,E⟩:=q
   refine ⟨_,rfl,⟨(E.1.box 7 rfl),(E.1.box 3 rfl),trivial⟩,(fun hHeld=> ?_)⟩
   refine zw (a':= ?_) zq2 ?_
   iterate 3 (refine zM (v:= ?_) (a':= ?_) rfl rfl (Or.inl ⟨zq22,zq12⟩) zq2 ?_)
   refine tre_l rfl (zA rfl zq22 37 _ _ rfl gr7o12 0 dr7o8__ [] [.slice none 0 0,.slice none 0 0] [] rfl rfl (E.1.box 1 rfl) zq6 (rfl) (zq40 Ldr7o8__.1) (zq24 Ldr7o8__.1) Odr7o8__.1 (fun Wr7o13_ hp hn=> ?_))
   replace E:=E.1.put2 1 hp hn zq7;clear hp hn
   (refine zM (v:= ?_) (a':= ?_) rfl rfl (Or.inl ⟨zq22,zq12⟩) zq2 ?_)
   refine zX ?_
   clear hHeld
   obtain ⟨t0,ht⟩:∃t,t=mr7o8____:=⟨_,rfl⟩
   replace E:=zz (Env.atTop E.1 ht)
   replace O:=zz (And.intro ht (And.intro E.1.le O.1));clear ht
   have e:Env w _ _ [_,_,_,_,_,_,_,_]:=E.1.pick [(1,_),(0,_),(2,_),(3,_),(4,_),(5,_),(6,_),(7,_)] ⟨rfl,rfl,rfl,rfl,rfl,rfl,rfl,rfl,trivial⟩;clear E;have E:=zz e;clear e
 rotate_left 3
 focus
  replace O:=zz (And.intro E.1.le O.1)
  replace E:=zz (E.1.alloc [.slice none 0 0,.slice none 0 0] 37 (g:=w6.heap.size) rfl)
  refine ⟨⟨(E.1.box 5 rfl),(E.1.box 1 rfl),trivial⟩,(fun hHeld=> ?_)⟩
  refine zw (a':= ?_) zq2 ?_
  generalize (w6.alloc (.cells [.slice none 0 0,.slice none 0 0].toArray 37))=wr7o12_ at E hHeld ⊢
  generalize w6.heap.size=gr7o12 at O E hHeld ⊢
  refine zS rfl (zC rfl Tryz.func33 zq13 rfl #[.agg [.slice B0 l0.length d0,.slice B1 l1.length d1].toArray] zq22 rfl zq14 ?_)
  with_reducible refine (zqb k l0 l1 e0 e1 _ (zsa (E.1.K KW0.1) (E.1.K KW1.1)) FS.1).mono ?_
  rintro e wr7o3_ ⟨dr7o3__,rfl,Mdr7o3__,hb⟩
  have q:=E.1.made4 O.1 2 rfl Mdr7o3__ hb;clear O E Mdr7o3__ hb;obtain ⟨nr7o3___,mr7o3____,Ldr7o3__,Odr7o3__,O,E⟩:=q
  refine ⟨_,rfl,⟨(E.1.box 6 rfl),(E.1.box 2 rfl),trivial⟩,(fun hHeld=> ?_)⟩
  refine zw (a':= ?_) zq2 ?_
  refine zS rfl (zC rfl Tryz.func39 zq13 rfl #[.int .i64 m.f0] zq22 rfl zq14 ?_)
  with_reducible refine (pageS_c m.f0 _ FX.1).mono ?_
  rintro e wr7o6_ ⟨rfl,hb⟩
  replace E:=zz (E.1.call hb);clear hb
  refine ⟨_,rfl,⟨(E.1.box 6 rfl),(E.1.box 2 rfl),trivial⟩,(fun hHeld=> ?_)⟩
  refine zw (a':= ?_) zq2 ?_
  refine zS rfl (zC rfl Tryz.func38 zq13 rfl #[.agg dr7o3__.toArray,.int .i64 (m.f0%2),.string t] zq22 rfl zq14 ?_)
  with_reducible refine (writeS_t k (e0,e1) z (m.f0%2) t _ (E.1.mk_ 0 rfl) FW.1).mono ?_
  rintro e wr7o8_ ⟨dr7o8__,rfl,Mdr7o8__,hb⟩
  have q:=E.1.made4 O.1 2 rfl Mdr7o8__ hb;clear O E Mdr7o8__ hb;obtain ⟨nr7o8___,mr7o8____,Ldr7o8__,Odr7o8__,O,E⟩:=q
  refine ⟨_,rfl,⟨(E.1.box 7 rfl),(E.1.box 3 rfl),trivial⟩,(fun hHeld=> ?_)⟩
  refine zw (a':= ?_) zq2 ?_
  iterate 3 (refine zM (v:= ?_) (a':= ?_) rfl rfl (Or.inl ⟨zq22,zq12⟩) zq2 ?_)
  refine tre_l rfl (zA rfl zq22 37 _ _ rfl gr7o12 0 dr7o8__ [] [.slice none 0 0,.slice none 0 0] [] rfl rfl (E.1.box 2 rfl) zq6 (rfl) (zq40 Ldr7o8__.1) (zq24 Ldr7o8__.1) Odr7o8__.1 (fun Wr7o13_ hp hn=> ?_))
  replace E:=E.1.put2 2 hp hn zq7;clear hp hn
  (refine zM (v:= ?_) (a':= ?_) rfl rfl (Or.inl ⟨zq22,zq12⟩) zq2 ?_)
  refine zX ?_
  clear hHeld
  obtain ⟨t0,ht⟩:∃t,t=mr7o8____:=⟨_,rfl⟩
  replace E:=zz (Env.atTop E.1 ht)
  replace O:=zz (And.intro ht (And.intro E.1.le O.1));clear ht
  have e:Env w _ _ [_,_,_,_,_,_,_,_]:=E.1.pick [(2,_),(0,_),(1,_),(3,_),(4,_),(5,_),(6,_),(7,_)] ⟨rfl,rfl,rfl,rfl,rfl,rfl,rfl,rfl,trivial⟩;clear E;have E:=zz e;clear e
 all_goals
  go_upto_region 10 with (fail)
  replace E:=zz E.1.drew
  refine zfa commitS_D_ok10_1 (S:=fun w'=>w'.heap[gr7o12]?=some (.cells (([]++(dr7o8__++[])):List Value).toArray 37 (0,0))∧w'.heap[w5.heap.size]?=some (.cells (([]++(d2++[])):List Value).toArray 40 (0,0))∧True) zq13 (fun _ _ _ _ h=>h) ⟨(E.1.box 0 rfl),(E.1.box 3 rfl),trivial⟩ (fun hHeld=> ?_)
  generalize hq:World.drew _=w9_ at hHeld ⊢;replace E:=E.1.to hq;clear hq
  refine zB (a':= ?_) rfl rfl zq22 37 _ rfl gr7o12 0 [] dr7o8__ [] _ rfl (fun w' hs=>hs.1) zq6 (rfl) Tryz.underlying37 rfl (zq24 Ldr7o8__.1) zq2 ?_
  refine zB (a':= ?_) rfl rfl zq22 40 _ rfl w5.heap.size 0 [] d2 [] _ rfl (fun w' hs=>hs.2.1) zq6 (rfl) Tryz.underlying40 rfl (zq24 L0.1) zq2 ?_
  refine zS rfl (zC rfl Tryz.func33 zq13 rfl #[.agg dr7o8__.toArray] zq22 rfl zq14 ?_)
  with_reducible refine (zqb k z.1 z.2 g0 g1 _ (E.1.mk_ 1 rfl) FS2.1).mono ?_
  rintro e wr10o1_ ⟨dr10o1__,rfl,Mdr10o1__,hb⟩
  have q:=E.1.made4 O.1 2 rfl Mdr10o1__ hb;clear O E Mdr10o1__ hb;obtain ⟨nr10o1___,mr10o1____,Ldr10o1__,Odr10o1__,O,E⟩:=q
  refine ⟨_,rfl,⟨(E.1.box 1 rfl),(E.1.box 4 rfl),trivial⟩,(fun hHeld=> ?_)⟩
  refine zw (a':= ?_) zq2 ?_
  refine zS rfl (zA rfl zq22 37 _ _ rfl (w.heap.size+1) 0 dr10o1__ [] [.slice none 0 0,.slice none 0 0] [] rfl rfl (E.1.box 7 rfl) zq6 (rfl) (zq40 Ldr10o1__.1) (zq24 Ldr10o1__.1) Odr10o1__.1 (fun Wr10o3_ hp hn=> ?_))
  replace E:=E.1.put2 7 hp hn zq7;clear hp hn
  refine ⟨⟨(E.1.box 1 rfl),(E.1.box 4 rfl),trivial⟩,(fun hHeld=> ?_)⟩
  refine zS rfl (zA rfl zq22 40 _ _ rfl (w.heap.size+1+1) 0 d2 [] Z40 [] rfl rfl (E.1.box 6 rfl) zq6 (rfl) (zq40 L0.1) (zq24 L0.1) Q0.1 (fun Wr10o4_ hp hn=> ?_))
  replace E:=E.1.put2 6 hp hn zq7;clear hp hn
  refine ⟨⟨(E.1.box 1 rfl),(E.1.box 4 rfl),trivial⟩,(fun hHeld=> ?_)⟩
  (refine zM (v:= ?_) (a':= ?_) rfl rfl (Or.inl ⟨zq22,zq12⟩) zq2 ?_)
  refine zX ?_
  clear hHeld
  obtain ⟨t10_,ht⟩:∃t,t=mr10o1____:=⟨_,rfl⟩
  replace E:=zz (Env.atTop E.1 ht)
  replace O:=zz (And.intro ht (And.intro E.1.le O.1));clear ht
  go_wp2_with fail
  have BX:=zz (show _=some (Obj.cells (dr10o1__:List Value).toArray 37 (0,0)) from by first|exact (E.1.box 7 rfl)|simpa only [aA,aN,aL] using (E.1.box 7 rfl))
  have BX2:=zz (show _=some (Obj.cells (d2:List Value).toArray 40 (0,0)) from by first|exact (E.1.box 6 rfl)|simpa only [aA,aN,aL] using (E.1.box 6 rfl))
  refine bodyPost_ret (zG (rs:=[.cell 2 37,.cell 3 40,.tmp 4]) rfl zq38 (.cell (w.heap.size+1) 37 _ _ _ rfl BX.1 Tryz.underlying37 rfl (by rw [List.size_toArray,show (dr10o1__:List Value).length=2 from Ldr10o1__.1];kernel_rfl) (.cell (w.heap.size+1+1) 40 _ _ _ rfl BX2.1 Tryz.underlying40 rfl (by rw [List.size_toArray,show (d2:List Value).length=4 from L0.1];kernel_rfl) (.tmp .nil)))) rfl ?_
  exact ⟨_,_,rfl,⟨nr10o1___,mr10o1____,n0,m10,zq67,(E.1.made 0 rfl),(E.1.made 5 rfl)⟩,E.1.below⟩
theorem Env.made22 {w0 W W':World} {top:Nat} {fs:List Fct} (E:Env w0 W top fs) {α β:Type} {d1:Kd α} {d2:Kd β} {x1:α} {x2:β} {c1 c2:List Value} {a1 b1 a2 b2:Nat} (ho:(W.heap.size≤a1∧a1≤b1∧b1≤W'.heap.size)∧(W.heap.size≤a2∧a2≤b2∧b2≤W'.heap.size)∧(b1≤a2∨b2≤a1)) (M1:d1.M W' W.heap.size (fun k=>True∧Iv a1 b1 k) x1 c1) (M2:d2.M W' W.heap.size (fun k=>True∧Iv a2 b2 k) x2 c2) (hb:Below W.heap.size W W'):∃m,(((top≤a1∧a1≤b1∧b1≤m)∧(top≤a2∧a2≤b2∧b2≤m)∧(b1≤a2∨b2≤a1))∧top≤m)∧Env w0 W' m (Fct.made d1 w0.heap.size a1 b1 (fun _=>True) x1 c1::Fct.made d2 w0.heap.size a2 b2 (fun _=>True) x2 c2::fs):=by
 obtain ⟨h1,h2,h3⟩:=ho
 exact ⟨W'.heap.size,⟨⟨⟨z5a E.le h1.1,h1.2⟩,⟨z5a E.le h2.1,h2.2⟩,h3⟩,z5a E.le hb.size⟩,ze E.below hb,z3a _,z5a E.below.size hb.size,⟨h1.2.2,d1.M_lower E.below.size M1⟩,⟨h2.2.2,d2.M_lower E.below.size M2⟩,All.step (fun k h=>hb.block k (z4a h E.le)) (z5a E.le hb.size) E.all⟩
@[reducible] def EqDisk (k:Nat) (z:(List ByteArray×List S110)):Prop:=eqDisk_c_f k z z=some true
@[reducible] def HeldDisk (k:Nat) (z:(List ByteArray×List S110)) (a r:Int):Prop:=zKb k z a=some r
def zAb (k:Nat) (d:(S40×(List ByteArray×List S110×Int×List Int×List Int×List Int)×Int)) (z:(List ByteArray×List S110)) (x:S40) (b:Bool):Prop:=impl_cloneMeta.f k d.1.f0 d.1.f1 d.1.f2 d.1.f3=some (d.1.f0,d.1.f1,d.1.f2,d.1.f3)∧(d.2.1.1.length≤2000000∧d.2.1.2.1.length≤2000000)∧((zRb d=true∧(∃e0 e1,impl_SyncDisk.f k d.2.1.1 d.2.1.2.1=some (e0,e1)∧z=(e0,e1))∧x=d.1∧b=true)∨(zRb d=false∧(∃m,ImplNM k d m false)∧z=(d.2.1.1,d.2.1.2.1)∧x=d.1∧b=false)∨
 (zRb d=false∧∃m t ok e0 e1 y r,ImplNM k d m true∧(∃(vt:Int→ByteArray) (sl:ByteArray→ByteArray),TxF k vt sl∧MTxt vt sl m t ok)∧impl_SyncDisk.f k d.2.1.1 d.2.1.2.1=some (e0,e1)∧(0≤m.f0∧m.f0≤100000)∧((r=false∧(e0.length≤2000000∧e1.length≤2000000)∧impl_DiskOk.f e0 e1=some false∧z=(d.2.1.1,d.2.1.2.1)∧x=d.1∧b=false)∨(r=true∧impl_WritePage.f e0 e1 (m.f0%2) t=some ((y:(List ByteArray×List S110)).1,y.2,true)∧(∃g0 g1,impl_SyncDisk.f k y.1 y.2=some (g0,g1)∧z=(g0,g1))∧x=m∧b=true))))
theorem implCommit_c (k:Nat) (d:(S40×(List ByteArray×List S110×Int×List Int×List Int×List Int)×Int)) (z:(List ByteArray×List S110)) (x:S40) (b:Bool) {cs:List Value} (w:World) (h:kTxn.K w d cs) (hf:zAb k d z x b):
  Calls Tryz.prog 9 #[.agg cs.toArray] w fun e w'=>∃ds es:List Value,e= .returned (.tuple #[.agg ds.toArray,.agg es.toArray,.bool b])∧Two w w' kDisk z ds k40 x es∧Below w.heap.size w w':=by
 obtain ⟨y,⟨l0,l1,l2,l3,l4,l5⟩,n⟩:=d
 obtain ⟨f1,fl,⟨fi,⟨e0,e1,fs,rfl⟩,rfl,rfl⟩|⟨fi,⟨m,fn⟩,rfl,rfl,rfl⟩|⟨fi,m,t,ok,e0,e1,u,r,fn,ft,fs,fx,⟨rfl,fe,fd,rfl,rfl,rfl⟩|⟨rfl,fw,⟨g0,g1,fs2,rfl⟩,rfl,rfl⟩⟩⟩:=hf
 ·exact commitI_A k _ l0 l1 l2 l3 l4 l5 n e0 e1 w h fi f1 fs
 ·exact commitI_B k _ l0 l1 l2 l3 l4 l5 n m w h fi f1 fl fn
 ·exact commitI_C k _ l0 l1 l2 l3 l4 l5 n m t ok e0 e1 w h fi f1 fl fn ft fs fx fe fd
 ·exact commitI_D k y l0 l1 l2 l3 l4 l5 n _ t ok e0 e1 u g0 g1 w h fi fn ft fs fx fw fs2
def zCb (k:Nat) (d:(S40×(List ByteArray×List S110×Int×List Int×List Int×List Int)×Int)) (z:(List ByteArray×List S110)) (x:S40) (b:Bool):Prop:=zua d.1∧(d.2.1.1.length≤2000000∧d.2.1.2.1.length≤2000000)∧((zRb d=true∧(∃e0 e1,spec_SyncDisk.f k d.2.1.1 d.2.1.2.1=some (e0,e1)∧z=(e0,e1))∧x=d.1∧b=true)∨(zRb d=false∧(∃m,SpecNM k d m false)∧z=(d.2.1.1,d.2.1.2.1)∧x=d.1∧b=false)∨
 (zRb d=false∧∃m t ok e0 e1 y r,SpecNM k d m true∧(∃(vt:Int→ByteArray) (sl:ByteArray→ByteArray),TxF k vt sl∧MTxt vt sl m t ok)∧spec_SyncDisk.f k d.2.1.1 d.2.1.2.1=some (e0,e1)∧(0≤m.f0∧m.f0≤100000)∧((r=false∧(e0.length≤2000000∧e1.length≤2000000)∧spec_DiskOk.f k e0 e1=some false∧z=(d.2.1.1,d.2.1.2.1)∧x=d.1∧b=false)∨(r=true∧spec_WritePage.f k e0 e1 (m.f0%2) t=some ((y:(List ByteArray×List S110)).1,y.2,true)∧(∃g0 g1,spec_SyncDisk.f k y.1 y.2=some (g0,g1)∧z=(g0,g1))∧x=m∧b=true))))
theorem specCommit_c (k:Nat) (d:(S40×(List ByteArray×List S110×Int×List Int×List Int×List Int)×Int)) (z:(List ByteArray×List S110)) (x:S40) (b:Bool) {cs:List Value} (w:World) (h:kTxn.K w d cs) (hf:zCb k d z x b):
  Calls Tryz.prog 7 #[.agg cs.toArray] w fun e w'=>∃ds es:List Value,e= .returned (.tuple #[.agg ds.toArray,.agg es.toArray,.bool b])∧Two w w' kDisk z ds k40 x es∧Below w.heap.size w w':=by
 obtain ⟨y,⟨l0,l1,l2,l3,l4,l5⟩,n⟩:=d
 obtain ⟨f1,fl,⟨fi,⟨e0,e1,fs,rfl⟩,rfl,rfl⟩|⟨fi,⟨m,fn⟩,rfl,rfl,rfl⟩|⟨fi,m,t,ok,e0,e1,u,r,fn,ft,fs,fx,⟨rfl,fe,fd,rfl,rfl,rfl⟩|⟨rfl,fw,⟨g0,g1,fs2,rfl⟩,rfl,rfl⟩⟩⟩:=hf
 ·exact commitS_A k _ l0 l1 l2 l3 l4 l5 n e0 e1 w h fi f1 fs
 ·exact commitS_B k _ l0 l1 l2 l3 l4 l5 n m w h fi f1 fl fn
 ·exact commitS_C k _ l0 l1 l2 l3 l4 l5 n m t ok e0 e1 w h fi f1 fl fn ft fs fx fe fd
 ·exact commitS_D k y l0 l1 l2 l3 l4 l5 n _ t ok e0 e1 u g0 g1 w h fi fn ft fs fx fw fs2
end Go.Proofs.YtonhdiemjgdcnaaGreat.PFnExactGivePage
