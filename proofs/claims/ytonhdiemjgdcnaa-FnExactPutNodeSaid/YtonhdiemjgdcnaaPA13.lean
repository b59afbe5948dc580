import Derived.Test.YtonhdiemjgdcnaaPA12
set_option maxHeartbeats 64000000
set_option maxRecDepth 100000
set_option linter.unusedVariables false
set_option linter.unusedSimpArgs false
namespace Go.Proofs.Ytonhdiemjgdcnaa.PFnExactGivePage
open Go.RowKit Go.Proofs.YtonhdiemjgdcnaaW.PrintWords Go.Proofs.YtonhdiemjgdcnaaW.PrintLast Go.Proofs.YtonhdiemjgdcnaaW.PrintMore
attribute [local go_sem] zO zP zY zX zK zJ zQ zR
theorem work_cut {W:World} {base:Nat} {ok:Nat→Prop} {z:(List ByteArray×List S135×Int×List Int×List Int×List Int)} {ds:List Value} (h:kWork.M W base ok z ds):∃g0 gR,ds=g0++gR∧g0.length=2∧gR.length=4∧(∀v∈g0,v.oneCell'=true)∧(∀v∈gR,v.oneCell'=true):=by
 have h1:=one_of_K (Kd.K_of_M _ h)
 obtain ⟨l0,l1,l2,l3,l4,l5⟩:=z
 obtain ⟨v0,v1,v3,v4,v5,P0,P1,P3,P4,P5,rfl,-⟩:=kWork_openM h
 exact ⟨[v0,v1],[.int .i64 l2,v3,v4,v5],rfl,rfl,rfl,fun v hv=>h1 v (List.mem_append.2 (.inl hv):v∈[v0,v1]++[.int .i64 l2,v3,v4,v5]),fun v hv=>h1 v (List.mem_append.2 (.inr hv):v∈[v0,v1]++[.int .i64 l2,v3,v4,v5])⟩
theorem work_disk {W:World} {z:(List ByteArray×List S135×Int×List Int×List Int×List Int)} {g0 gR:List Value} (h:kWork.K W z (g0++gR)) (hl:g0.length=2):kDisk.K W (z.1,z.2.1) g0:=by
 obtain ⟨l0,l1,l2,l3,l4,l5⟩:=z
 obtain ⟨A0,c0,A1,c1,A3,c3,A4,c4,A5,c5,e,m0,r0,m1,r1,-⟩:=zUa h
 match g0,hl with
 |[a,b],_=>
  injection e with e1 e
  injection e with e2 e
  subst e1 e2
  exact ⟨_,_,rfl,⟨A0,c0,rfl,m0,r0⟩,⟨A1,c1,rfl,m1,r1⟩⟩
theorem work_swap {W:World} {base:Nat} {p q:Nat→Prop} {z:(List ByteArray×List S135×Int×List Int×List Int×List Int)} {d:(List ByteArray×List S135)} {g0 gR ds:List Value} (h:kWork.M W base p z (g0++gR)) (hl:g0.length=2) (hd:kDisk.M W base q d ds) (hx:∀k,q k→¬p k):kWork.M W base (fun k=>q k∨p k) (d.1,d.2,z.2.2) (ds++gR):=by
 obtain ⟨l0,l1,l2,l3,l4,l5⟩:=z
 obtain ⟨d0,d1⟩:=d
 obtain ⟨v0,v1,v3,v4,v5,P0,P1,P3,P4,P5,e,R0,R1,R3,R4,R5,o0,o1,o3,o4,o5,x01,x03,x04,x05,x13,x14,x15,x34,x35,x45⟩:=kWork_openM h
 obtain ⟨u0,u1,U0,U1,rfl,S0,S1,i0,i1,y01⟩:=kDisk_openM hd
 match g0,hl with
 |[a,b],_=>
  injection e with e1 e
  injection e with e2 e
  subst e
  exact kWork_mkM S0 S1 R3 R4 R5 (fun k h=> .inl (i0 k h)) (fun k h=> .inl (i1 k h)) (fun k h=> .inr (o3 k h)) (fun k h=> .inr (o4 k h)) (fun k h=> .inr (o5 k h)) y01 (fun k h1 h2=>hx k (i0 k h1) (o3 k h2)) (fun k h1 h2=>hx k (i0 k h1) (o4 k h2)) (fun k h1 h2=>hx k (i0 k h1) (o5 k h2)) (fun k h1 h2=>hx k (i1 k h1) (o3 k h2)) (fun k h1 h2=>hx k (i1 k h1) (o4 k h2)) (fun k h1 h2=>hx k (i1 k h1) (o5 k h2)) x34 x35 x45
theorem giveI_c (z q:(List ByteArray×List S135×Int×List Int×List Int×List Int)) (r:Int) {cs:List Value} (w:World) (h:kWork.K w z cs) (hf:impl_GivePage.f z.1 z.2.1 z.2.2.1 z.2.2.2.1 z.2.2.2.2.1 z.2.2.2.2.2=some (q.1,q.2.1,q.2.2.1,q.2.2.2.1,q.2.2.2.2.1,q.2.2.2.2.2,r)):
  Calls Try.prog 12 #[.agg cs.toArray] w fun e w'=>∃ds:List Value,e= .returned (.tuple #[.agg ds.toArray,.int .i64 r])∧kWork.M w' w.heap.size (Fr w w') q ds∧Below w.heap.size w w':=by
 obtain ⟨l0,l1,l2,l3,l4,l5⟩:=z
 obtain ⟨q0,q1,q2,q3,q4,q5⟩:=q
 exact implGive_o l0 l1 l2 l3 l4 l5 q0 q1 q2 q3 q4 q5 r w h hf
theorem giveS_c (z q:(List ByteArray×List S135×Int×List Int×List Int×List Int)) (r:Int) {cs:List Value} (w:World) (h:kWork.K w z cs) (hf:spec_GivePage.f z.1 z.2.1 z.2.2.1 z.2.2.2.1 z.2.2.2.2.1 z.2.2.2.2.2=some (q.1,q.2.1,q.2.2.1,q.2.2.2.1,q.2.2.2.2.1,q.2.2.2.2.2,r)):
  Calls Try.prog 10 #[.agg cs.toArray] w fun e w'=>∃ds:List Value,e= .returned (.tuple #[.agg ds.toArray,.int .i64 r])∧kWork.M w' w.heap.size (Fr w w') q ds∧Below w.heap.size w w':=by
 obtain ⟨l0,l1,l2,l3,l4,l5⟩:=z
 obtain ⟨q0,q1,q2,q3,q4,q5⟩:=q
 exact specGive_o l0 l1 l2 l3 l4 l5 q0 q1 q2 q3 q4 q5 r w h hf
theorem putI_a (k:Nat) (l0:List ByteArray) (l1:List S135) (l2:Int) (l3 l4 l5:List Int) (nz:(Bool×List ByteArray×List ByteArray×List Int)) (t:ByteArray) {cs cn:List Value} (w:World) (h:kWork.K w (l0,l1,l2,l3,l4,l5) cs) (hn:kNode.K w nz cn) (ft:impl_NodeText.f k nz.1 nz.2.1 nz.2.2.1 nz.2.2.2=some (t,false)) (hl:((l0.length≤2000000∧l1.length≤2000000)∧l3.length≤2000000∧l4.length≤2000000∧l5.length≤2000000)):
  Calls Try.prog 19 #[.agg cs.toArray,.agg cn.toArray] w fun e w'=>∃ds:List Value,e= .returned (.tuple #[.agg ds.toArray,.int .i64 0])∧kWork.M w' w.heap.size (Fr w w') (l0,l1,l2,l3,l4,l5) ds∧Below w.heap.size w w':=by
 have KS:=zz h;have KN:=zz hn;have Lcs:=zz (show cs.length=6 from Kd.K_len _ h);have Lcn:=zz (show cn.length=4 from Kd.K_len _ hn);clear h hn
 have FT:=zz ft;clear ft
 have FL:=zz hl;clear hl
 have O:=zz (Nat.le_refl w.heap.size)
 have E:=zz (Env.start w)
 go_enter Try.func19,Try.ntmps19
 go_wp2_with (first|((with_reducible refine zm (N:=12) rfl ?_);replace O:=zz (And.intro E.out.le O.out);replace E:=zz (E.out.alloc cs 34 (g:=w.heap.size) rfl);replace E:=zz (E.out.alloc cn 45 (g:=(w.heap.size+1)) zq52);replace E:=zz (E.out.alloc Z34 34 (g:=(w.heap.size+1+1)) zq52);refine zt rfl 45 _ rfl (w.heap.size+1) 0 [] cn [] _ rfl (E.out.box 1 rfl) zq13 (rfl) Try.underlying45 rfl zq125 ?_))
 ((with_reducible refine (textI_c k nz t false _ (E.out.K KN.out) FT.out).mono ?_);rintro e w1_ ⟨rfl,hb⟩)
 replace E:=zz (E.out.call hb);clear hb
 go_wp2_with (first|((with_reducible refine zm (N:=18) rfl ?_);refine zt rfl 34 _ rfl w.heap.size 0 [] cs [] _ rfl (E.out.box 2 rfl) zq13 (rfl) Try.underlying34 rfl zq110 ?_))
 ((with_reducible refine (cloneWork_c (l0,l1,l2,l3,l4,l5) _ (E.out.K KS.out) FL.out).mono ?_);rintro e w2_ ⟨d3_,rfl,Md3_,hb⟩)
 have q:=E.out.made4 O.out 6 rfl Md3_ hb;clear O E Md3_ hb;obtain ⟨n4_,m5_,Ld3_,Od3_,O,E⟩:=q
 go_wp2_with (first|((with_reducible refine zv (t:=34) (p:=4) rfl ?_);refine zB rfl 34 _ _ rfl rfl (w.heap.size+1+1) 0 d3_ [] Z34 [] rfl rfl (E.out.box 1 rfl) zq13 (rfl) (zq99 Ld3_.out) (zq43 Ld3_.out) Od3_.out ?_;intro W6_ hp hn;replace E:=E.out.put2 1 hp hn zq19;clear hp hn))
 have BX:=zz (show _=some (Obj.cells (d3_:List Value).toArray 34 (0,0)) from by first|exact (E.out.box 1 rfl)|simpa only [aA,aN,aL] using (E.out.box 1 rfl))
 refine bodyPost_ret (zea (rs:=[.cell 4 34,.tmp 5]) rfl zq52 (.cell (w.heap.size+1+1) 34 _ _ _ rfl BX.out Try.underlying34 rfl (by rw [List.size_toArray,show (d3_:List Value).length=6 from Ld3_.out];kernel_rfl) (.tmp .nil))) rfl ?_
 exact ⟨_,rfl,(fresh (d:=kWork) (E.out.made 0 rfl) (Nat.le_refl _)),E.out.below⟩
theorem putI_b (k:Nat) (l0:List ByteArray) (l1:List S135) (l2:Int) (l3 l4 l5:List Int) (nz:(Bool×List ByteArray×List ByteArray×List Int)) (t:ByteArray) (q0:List ByteArray) (q1:List S135) (q2:Int) (q3 q4 q5:List Int) {cs cn:List Value} (w:World) (h:kWork.K w (l0,l1,l2,l3,l4,l5) cs) (hn:kNode.K w nz cn) (ft:impl_NodeText.f k nz.1 nz.2.1 nz.2.2.1 nz.2.2.2=some (t,true)) (hl:((l0.length≤2000000∧l1.length≤2000000)∧l3.length≤2000000∧l4.length≤2000000∧l5.length≤2000000)) (fg:impl_GivePage.f l0 l1 l2 l3 l4 l5=some (q0,q1,q2,q3,q4,q5,0)):
  Calls Try.prog 19 #[.agg cs.toArray,.agg cn.toArray] w fun e w'=>∃ds:List Value,e= .returned (.tuple #[.agg ds.toArray,.int .i64 0])∧kWork.M w' w.heap.size (Fr w w') (l0,l1,l2,l3,l4,l5) ds∧Below w.heap.size w w':=by
 have KS:=zz h;have KN:=zz hn;have Lcs:=zz (show cs.length=6 from Kd.K_len _ h);have Lcn:=zz (show cn.length=4 from Kd.K_len _ hn);clear h hn
 have FT:=zz ft;clear ft
 have FL:=zz hl;clear hl
 have FG:=zz fg;clear fg
 have O:=zz (Nat.le_refl w.heap.size)
 have E:=zz (Env.start w)
 go_enter Try.func19,Try.ntmps19
 go_wp2_with (first|((with_reducible refine zm (N:=12) rfl ?_);replace O:=zz (And.intro E.out.le O.out);replace E:=zz (E.out.alloc cs 34 (g:=w.heap.size) rfl);replace E:=zz (E.out.alloc cn 45 (g:=(w.heap.size+1)) zq52);replace E:=zz (E.out.alloc Z34 34 (g:=(w.heap.size+1+1)) zq52);refine zt rfl 45 _ rfl (w.heap.size+1) 0 [] cn [] _ rfl (E.out.box 1 rfl) zq13 (rfl) Try.underlying45 rfl zq125 ?_))
 ((with_reducible refine (textI_c k nz t true _ (E.out.K KN.out) FT.out).mono ?_);rintro e w1_ ⟨rfl,hb⟩)
 replace E:=zz (E.out.call hb);clear hb
 go_wp2_with (first|((with_reducible refine zm (N:=21) rfl ?_);refine zt rfl 34 _ rfl w.heap.size 0 [] cs [] _ rfl (E.out.box 2 rfl) zq13 (rfl) Try.underlying34 rfl zq110 ?_))
 ((with_reducible refine (giveI_c (l0,l1,l2,l3,l4,l5) (q0,q1,q2,q3,q4,q5) 0 _ (E.out.K KS.out) FG.out).mono ?_);rintro e w2_ ⟨d3_,rfl,Md3_,hb⟩)
 have q:=E.out.made4 O.out 6 rfl Md3_ hb;clear O E Md3_ hb;obtain ⟨n4_,m5_,Ld3_,Od3_,O,E⟩:=q
 go_wp2_with (first|((with_reducible refine zv (t:=34) (p:=8) rfl ?_);replace O:=zz (And.intro E.out.le O.out);replace E:=zz (E.out.alloc Z34 34 (g:=w2_.heap.size) rfl);refine zB rfl 34 _ _ rfl rfl w2_.heap.size 0 d3_ [] Z34 [] rfl rfl (E.out.box 0 rfl) zq13 (rfl) (zq99 Ld3_.out) (zq43 Ld3_.out) Od3_.out ?_;intro W6_ hp hn;replace E:=E.out.put2 0 hp hn zq19;clear hp hn)|((with_reducible refine zm (N:=27) rfl ?_);refine zt rfl 34 _ rfl w.heap.size 0 [] cs [] _ rfl (E.out.box 4 rfl) zq13 (rfl) Try.underlying34 rfl zq110 ?_))
 ((with_reducible refine (cloneWork_c (l0,l1,l2,l3,l4,l5) _ (E.out.K KS.out) FL.out).mono ?_);rintro e w7_ ⟨d8_,rfl,Md8_,hb⟩)
 have q:=E.out.made4 O.out 6 rfl Md8_ hb;clear O E Md8_ hb;obtain ⟨n9_,m10_,Ld8_,Od8_,O,E⟩:=q
 go_wp2_with (first|((with_reducible refine zv (t:=34) (p:=4) rfl ?_);refine zB rfl 34 _ _ rfl rfl (w.heap.size+1+1) 0 d8_ [] Z34 [] rfl rfl (E.out.box 3 rfl) zq13 (rfl) (zq99 Ld8_.out) (zq43 Ld8_.out) Od8_.out ?_;intro W11_ hp hn;replace E:=E.out.put2 3 hp hn zq19;clear hp hn))
 have BX:=zz (show _=some (Obj.cells (d8_:List Value).toArray 34 (0,0)) from by first|exact (E.out.box 3 rfl)|simpa only [aA,aN,aL] using (E.out.box 3 rfl))
 refine bodyPost_ret (zea (rs:=[.cell 4 34,.tmp 5]) rfl zq52 (.cell (w.heap.size+1+1) 34 _ _ _ rfl BX.out Try.underlying34 rfl (by rw [List.size_toArray,show (d8_:List Value).length=6 from Ld8_.out];kernel_rfl) (.tmp .nil))) rfl ?_
 exact ⟨_,rfl,(fresh (d:=kWork) (E.out.made 0 rfl) (Nat.le_refl _)),E.out.below⟩
theorem putI_c (k:Nat) (l0:List ByteArray) (l1:List S135) (l2:Int) (l3 l4 l5:List Int) (nz:(Bool×List ByteArray×List ByteArray×List Int)) (t:ByteArray) (q0:List ByteArray) (q1:List S135) (q2:Int) (q3 q4 q5:List Int) (r:Int) (z:(List ByteArray×List S135)) {cs cn:List Value} (w:World) (h:kWork.K w (l0,l1,l2,l3,l4,l5) cs) (hn:kNode.K w nz cn) (ft:impl_NodeText.f k nz.1 nz.2.1 nz.2.2.1 nz.2.2.2=some (t,true)) (hl:((l0.length≤2000000∧l1.length≤2000000)∧l3.length≤2000000∧l4.length≤2000000∧l5.length≤2000000)) (fg:impl_GivePage.f l0 l1 l2 l3 l4 l5=some (q0,q1,q2,q3,q4,q5,r)) (fw:impl_WritePage.f q0 q1 r t=some (z.1,z.2,false)) (hr:r≠0):
  Calls Try.prog 19 #[.agg cs.toArray,.agg cn.toArray] w fun e w'=>∃ds:List Value,e= .returned (.tuple #[.agg ds.toArray,.int .i64 0])∧kWork.M w' w.heap.size (Fr w w') (l0,l1,l2,l3,l4,l5) ds∧Below w.heap.size w w':=by
 replace hr:(r==0)=false:=beq_eq_false_iff_ne.2 hr
 have KS:=zz h;have KN:=zz hn;have Lcs:=zz (show cs.length=6 from Kd.K_len _ h);have Lcn:=zz (show cn.length=4 from Kd.K_len _ hn);clear h hn
 have FT:=zz ft;clear ft
 have FL:=zz hl;clear hl
 have FG:=zz fg;clear fg
 have FW:=zz fw;clear fw
 have O:=zz (Nat.le_refl w.heap.size)
 have E:=zz (Env.start w)
 go_enter Try.func19,Try.ntmps19
 go_wp2_with (first|((with_reducible refine zm (N:=12) rfl ?_);replace O:=zz (And.intro E.out.le O.out);replace E:=zz (E.out.alloc cs 34 (g:=w.heap.size) rfl);replace E:=zz (E.out.alloc cn 45 (g:=(w.heap.size+1)) zq52);replace E:=zz (E.out.alloc Z34 34 (g:=(w.heap.size+1+1)) zq52);refine zt rfl 45 _ rfl (w.heap.size+1) 0 [] cn [] _ rfl (E.out.box 1 rfl) zq13 (rfl) Try.underlying45 rfl zq125 ?_))
 ((with_reducible refine (textI_c k nz t true _ (E.out.K KN.out) FT.out).mono ?_);rintro e w1_ ⟨rfl,hb⟩)
 replace E:=zz (E.out.call hb);clear hb
 go_wp2_with (first|((with_reducible refine zm (N:=21) rfl ?_);refine zt rfl 34 _ rfl w.heap.size 0 [] cs [] _ rfl (E.out.box 2 rfl) zq13 (rfl) Try.underlying34 rfl zq110 ?_))
 ((with_reducible refine (giveI_c (l0,l1,l2,l3,l4,l5) (q0,q1,q2,q3,q4,q5) r _ (E.out.K KS.out) FG.out).mono ?_);rintro e w2_ ⟨d3_,rfl,Md3_,hb⟩)
 have Ld3_:=zz (show d3_.length=6 from Kd.K_len _ (Kd.K_of_M _ Md3_));have Od3_:=zz (one_of_K (Kd.K_of_M _ Md3_))
 obtain ⟨n4_,m5_,hT,hE⟩:=E.out.made_ Md3_ hb;replace O:=zz (And.intro hT O.out);replace E:=zz hE;clear hT hE Md3_ hb
 obtain ⟨g0,gR,hg,h0,hR,o0,oR⟩:=work_cut (E.out.made 0 rfl);have Eg:=zz hg;have Lg0:=zz h0;have LgR:=zz hR;have Og0:=zz o0;have OgR:=zz oR;clear hg h0 hR o0 oR
 go_wp2_with (first|((with_reducible refine zv (t:=34) (p:=8) rfl ?_);replace O:=zz (And.intro E.out.le O.out);replace E:=zz (E.out.alloc Z34 34 (g:=w2_.heap.size) rfl);refine zB rfl 34 _ _ rfl rfl w2_.heap.size 0 d3_ [] Z34 [] rfl rfl (E.out.box 0 rfl) zq13 (rfl) (zq99 Ld3_.out) (zq43 Ld3_.out) Od3_.out ?_;intro W6_ hp hn;replace E:=E.out.put2 0 hp hn zq19;clear hp hn)|((with_reducible refine zm (N:=31) rfl ?_);refine zt rfl 32 _ rfl w2_.heap.size 0 [] g0 gR _ rfl (E.out.box 0 rfl) zq96 (rfl) Try.underlying32 rfl (zq43 Lg0.out) ?_))
 ((with_reducible refine (writeI_c (q0,q1) z r t false _ (work_disk (z:=(q0,q1,q2,q3,q4,q5)) zq135 Lg0.out) FW.out).mono ?_);rintro e w7_ ⟨d8_,rfl,Md8_,hb⟩)
 have q:=E.out.made4 O.out 2 rfl Md8_ hb;clear O E Md8_ hb;obtain ⟨n9_,m10_,Ld8_,Od8_,O,E⟩:=q
 go_wp2_with (first|((with_reducible refine zv (t:=32) (p:=10) rfl ?_);replace O:=zz (And.intro E.out.le O.out);replace E:=zz (E.out.alloc [.slice none 0 0,.slice none 0 0] 32 (g:=w7_.heap.size) rfl);refine zB rfl 32 _ _ rfl rfl w7_.heap.size 0 d8_ [] [.slice none 0 0,.slice none 0 0] [] rfl rfl (E.out.box 0 rfl) zq13 (rfl) (zq99 Ld8_.out) (zq43 Ld8_.out) Od8_.out ?_;intro W11_ hp hn;replace E:=E.out.put2 0 hp hn zq19;clear hp hn)|((with_reducible refine zm (N:=39) rfl ?_);refine zt rfl 34 _ rfl w.heap.size 0 [] cs [] _ rfl (E.out.box 6 rfl) zq13 (rfl) Try.underlying34 rfl zq110 ?_))
 ((with_reducible refine (cloneWork_c (l0,l1,l2,l3,l4,l5) _ (E.out.K KS.out) FL.out).mono ?_);rintro e w12_ ⟨d13_,rfl,Md13_,hb⟩)
 have q:=E.out.made4 O.out 6 rfl Md13_ hb;clear O E Md13_ hb;obtain ⟨n14_,m15_,Ld13_,Od13_,O,E⟩:=q
 go_wp2_with (first|((with_reducible refine zv (t:=34) (p:=4) rfl ?_);refine zB rfl 34 _ _ rfl rfl (w.heap.size+1+1) 0 d13_ [] Z34 [] rfl rfl (E.out.box 5 rfl) zq13 (rfl) (zq99 Ld13_.out) (zq43 Ld13_.out) Od13_.out ?_;intro W16_ hp hn;replace E:=E.out.put2 5 hp hn zq19;clear hp hn))
 have BX:=zz (show _=some (Obj.cells (d13_:List Value).toArray 34 (0,0)) from by first|exact (E.out.box 5 rfl)|simpa only [aA,aN,aL] using (E.out.box 5 rfl))
 refine bodyPost_ret (zea (rs:=[.cell 4 34,.tmp 5]) rfl zq52 (.cell (w.heap.size+1+1) 34 _ _ _ rfl BX.out Try.underlying34 rfl (by rw [List.size_toArray,show (d13_:List Value).length=6 from Ld13_.out];kernel_rfl) (.tmp .nil))) rfl ?_
 exact ⟨_,rfl,(fresh (d:=kWork) (E.out.made 0 rfl) (Nat.le_refl _)),E.out.below⟩
theorem putI_d (k:Nat) (l0:List ByteArray) (l1:List S135) (l2:Int) (l3 l4 l5:List Int) (nz:(Bool×List ByteArray×List ByteArray×List Int)) (t:ByteArray) (q0:List ByteArray) (q1:List S135) (q2:Int) (q3 q4 q5:List Int) (r:Int) (z:(List ByteArray×List S135)) {cs cn:List Value} (w:World) (h:kWork.K w (l0,l1,l2,l3,l4,l5) cs) (hn:kNode.K w nz cn) (ft:impl_NodeText.f k nz.1 nz.2.1 nz.2.2.1 nz.2.2.2=some (t,true)) (fg:impl_GivePage.f l0 l1 l2 l3 l4 l5=some (q0,q1,q2,q3,q4,q5,r)) (fw:impl_WritePage.f q0 q1 r t=some (z.1,z.2,true)) (hr:r≠0):
  Calls Try.prog 19 #[.agg cs.toArray,.agg cn.toArray] w fun e w'=>∃ds:List Value,e= .returned (.tuple #[.agg ds.toArray,.int .i64 r])∧kWork.M w' w.heap.size (Fr w w') (z.1,z.2,q2,q3,q4,q5) ds∧Below w.heap.size w w':=by
 replace hr:(r==0)=false:=beq_eq_false_iff_ne.2 hr
 have KS:=zz h;have KN:=zz hn;have Lcs:=zz (show cs.length=6 from Kd.K_len _ h);have Lcn:=zz (show cn.length=4 from Kd.K_len _ hn);clear h hn
 have FT:=zz ft;clear ft
 have FG:=zz fg;clear fg
 have FW:=zz fw;clear fw
 have O:=zz (Nat.le_refl w.heap.size)
 have E:=zz (Env.start w)
 go_enter Try.func19,Try.ntmps19
 go_wp2_with (first|((with_reducible refine zm (N:=12) rfl ?_);replace O:=zz (And.intro E.out.le O.out);replace E:=zz (E.out.alloc cs 34 (g:=w.heap.size) rfl);replace E:=zz (E.out.alloc cn 45 (g:=(w.heap.size+1)) zq52);replace E:=zz (E.out.alloc Z34 34 (g:=(w.heap.size+1+1)) zq52);refine zt rfl 45 _ rfl (w.heap.size+1) 0 [] cn [] _ rfl (E.out.box 1 rfl) zq13 (rfl) Try.underlying45 rfl zq125 ?_))
 ((with_reducible refine (textI_c k nz t true _ (E.out.K KN.out) FT.out).mono ?_);rintro e w1_ ⟨rfl,hb⟩)
 replace E:=zz (E.out.call hb);clear hb
 go_wp2_with (first|((with_reducible refine zm (N:=21) rfl ?_);refine zt rfl 34 _ rfl w.heap.size 0 [] cs [] _ rfl (E.out.box 2 rfl) zq13 (rfl) Try.underlying34 rfl zq110 ?_))
 ((with_reducible refine (giveI_c (l0,l1,l2,l3,l4,l5) (q0,q1,q2,q3,q4,q5) r _ (E.out.K KS.out) FG.out).mono ?_);rintro e w2_ ⟨d3_,rfl,Md3_,hb⟩)
 have Ld3_:=zz (show d3_.length=6 from Kd.K_len _ (Kd.K_of_M _ Md3_));have Od3_:=zz (one_of_K (Kd.K_of_M _ Md3_))
 obtain ⟨n4_,m5_,hT,hE⟩:=E.out.made_ Md3_ hb;replace O:=zz (And.intro hT O.out);replace E:=zz hE;clear hT hE Md3_ hb
 obtain ⟨g0,gR,hg,h0,hR,o0,oR⟩:=work_cut (E.out.made 0 rfl);have Eg:=zz hg;have Lg0:=zz h0;have LgR:=zz hR;have Og0:=zz o0;have OgR:=zz oR;clear hg h0 hR o0 oR
 go_wp2_with (first|((with_reducible refine zv (t:=34) (p:=8) rfl ?_);replace O:=zz (And.intro E.out.le O.out);replace E:=zz (E.out.alloc Z34 34 (g:=w2_.heap.size) rfl);refine zB rfl 34 _ _ rfl rfl w2_.heap.size 0 d3_ [] Z34 [] rfl rfl (E.out.box 0 rfl) zq13 (rfl) (zq99 Ld3_.out) (zq43 Ld3_.out) Od3_.out ?_;intro W6_ hp hn;replace E:=E.out.put2 0 hp hn zq19;clear hp hn)|((with_reducible refine zm (N:=31) rfl ?_);refine zt rfl 32 _ rfl w2_.heap.size 0 [] g0 gR _ rfl (E.out.box 0 rfl) zq96 (rfl) Try.underlying32 rfl (zq43 Lg0.out) ?_))
 ((with_reducible refine (writeI_c (q0,q1) z r t true _ (work_disk (z:=(q0,q1,q2,q3,q4,q5)) zq135 Lg0.out) FW.out).mono ?_);rintro e w7_ ⟨d8_,rfl,Md8_,hb⟩)
 have q:=E.out.made4 O.out 2 rfl Md8_ hb;clear O E Md8_ hb;obtain ⟨n9_,m10_,Ld8_,Od8_,O,E⟩:=q
 obtain ⟨c13_,Ec13_,Lc13_,Oc13_⟩:=lump_ (d8_++gR) 6 (by simp only [List.length_append,List.length_cons,List.length_nil,Ld8_.out,LgR.out]) (zva Od8_.out OgR.out)
 go_wp2_with (first|((with_reducible refine zv (t:=32) (p:=10) rfl ?_);replace O:=zz (And.intro E.out.le O.out);replace E:=zz (E.out.alloc [.slice none 0 0,.slice none 0 0] 32 (g:=w7_.heap.size) rfl);refine zB rfl 32 _ _ rfl rfl w7_.heap.size 0 d8_ [] [.slice none 0 0,.slice none 0 0] [] rfl rfl (E.out.box 0 rfl) zq13 (rfl) (zq99 Ld8_.out) (zq43 Ld8_.out) Od8_.out ?_;intro W11_ hp hn;replace E:=E.out.put2 0 hp hn zq19;clear hp hn)|((with_reducible refine zm (N:=41) rfl ?_);refine zt rfl 32 _ rfl w7_.heap.size 0 [] d8_ [] _ rfl (E.out.box 0 rfl) zq13 (rfl) Try.underlying32 rfl (zq43 Ld8_.out) ?_)|((with_reducible refine zv (t:=32) (p:=42) rfl ?_);refine zB rfl 32 _ _ rfl rfl w2_.heap.size 0 d8_ [] g0 gR rfl rfl (E.out.box 2 rfl) zq96 (rfl) (by rw [Ld8_.out,Lg0.out]) (zq43 Ld8_.out) Od8_.out ?_;intro W12_ hp hn;replace E:=E.out.put2 2 hp hn zq19;clear hp hn)|((with_reducible refine zm (N:=43) rfl ?_);refine zt rfl 34 _ rfl w2_.heap.size 0 [] c13_ [] _ rfl (E.out.box 2 rfl) (zq118 Ec13_.out) (rfl) Try.underlying34 rfl (zq43 Lc13_.out) ?_)|((with_reducible refine zv (t:=34) (p:=4) rfl ?_);refine zB rfl 34 _ _ rfl rfl (w.heap.size+1+1) 0 c13_ [] Z34 [] rfl rfl (E.out.box 4 rfl) zq13 (rfl) (zq99 Lc13_.out) (zq43 Lc13_.out) Oc13_.out ?_;intro W14_ hp hn;replace E:=E.out.put2 4 hp hn zq19;clear hp hn))
 have BX:=zz (show _=some (Obj.cells (c13_:List Value).toArray 34 (0,0)) from by first|exact (E.out.box 4 rfl)|simpa only [aA,aN,aL] using (E.out.box 4 rfl))
 refine bodyPost_ret (zea (rs:=[.cell 4 34,.tmp 5]) rfl zq52 (.cell (w.heap.size+1+1) 34 _ _ _ rfl BX.out Try.underlying34 rfl (by rw [List.size_toArray,show (c13_:List Value).length=6 from Lc13_.out];kernel_rfl) (.tmp .nil))) rfl ?_
 exact ⟨_,rfl,(zq98 Ec13_.out Lg0.out),E.out.below⟩
theorem putS_a (k:Nat) (l0:List ByteArray) (l1:List S135) (l2:Int) (l3 l4 l5:List Int) (nz:(Bool×List ByteArray×List ByteArray×List Int)) (t:ByteArray) {cs cn:List Value} (w:World) (h:kWork.K w (l0,l1,l2,l3,l4,l5) cs) (hn:kNode.K w nz cn) (ft:spec_NodeText.f k nz.1 nz.2.1 nz.2.2.1 nz.2.2.2=some (t,false)) (hl:((l0.length≤2000000∧l1.length≤2000000)∧l3.length≤2000000∧l4.length≤2000000∧l5.length≤2000000)):
  Calls Try.prog 17 #[.agg cs.toArray,.agg cn.toArray] w fun e w'=>∃ds:List Value,e= .returned (.tuple #[.agg ds.toArray,.int .i64 0])∧kWork.M w' w.heap.size (Fr w w') (l0,l1,l2,l3,l4,l5) ds∧Below w.heap.size w w':=by
 have KS:=zz h;have KN:=zz hn;have Lcs:=zz (show cs.length=6 from Kd.K_len _ h);have Lcn:=zz (show cn.length=4 from Kd.K_len _ hn);clear h hn
 have FT:=zz ft;clear ft
 have FL:=zz hl;clear hl
 have O:=zz (Nat.le_refl w.heap.size)
 have E:=zz (Env.start w)
 go_enter Try.func17,Try.ntmps17
 go_wp2_with (first|((with_reducible refine zm (N:=13) rfl ?_);replace O:=zz (And.intro E.out.le O.out);replace E:=zz (E.out.alloc cs 34 (g:=w.heap.size) rfl);replace E:=zz (E.out.alloc cn 45 (g:=(w.heap.size+1)) zq52);replace E:=zz (E.out.alloc Z34 34 (g:=(w.heap.size+1+1)) zq52);refine zt rfl 45 _ rfl (w.heap.size+1) 0 [] cn [] _ rfl (E.out.box 1 rfl) zq13 (rfl) Try.underlying45 rfl zq125 ?_))
 ((with_reducible refine (textS_c k nz t false _ (E.out.K KN.out) FT.out).mono ?_);rintro e w1_ ⟨rfl,hb⟩)
 replace E:=zz (E.out.call hb);clear hb
 go_wp2_with (first|((with_reducible refine zm (N:=19) rfl ?_);refine zt rfl 34 _ rfl w.heap.size 0 [] cs [] _ rfl (E.out.box 2 rfl) zq13 (rfl) Try.underlying34 rfl zq110 ?_))
 ((with_reducible refine (l08Copy_n l0 l1 l2 l3 l4 l5 _ (E.out.K KS.out) FL.out).mono ?_);rintro e w2_ ⟨d3_,rfl,Md3_,hb⟩)
 have q:=E.out.made4 O.out 6 rfl Md3_ hb;clear O E Md3_ hb;obtain ⟨n4_,m5_,Ld3_,Od3_,O,E⟩:=q
 go_wp2_with (first|((with_reducible refine zv (t:=34) (p:=4) rfl ?_);refine zB rfl 34 _ _ rfl rfl (w.heap.size+1+1) 0 d3_ [] Z34 [] rfl rfl (E.out.box 1 rfl) zq13 (rfl) (zq99 Ld3_.out) (zq43 Ld3_.out) Od3_.out ?_;intro W6_ hp hn;replace E:=E.out.put2 1 hp hn zq19;clear hp hn))
 have BX:=zz (show _=some (Obj.cells (d3_:List Value).toArray 34 (0,0)) from by first|exact (E.out.box 1 rfl)|simpa only [aA,aN,aL] using (E.out.box 1 rfl))
 refine bodyPost_ret (zea (rs:=[.cell 4 34,.tmp 5]) rfl zq52 (.cell (w.heap.size+1+1) 34 _ _ _ rfl BX.out Try.underlying34 rfl (by rw [List.size_toArray,show (d3_:List Value).length=6 from Ld3_.out];kernel_rfl) (.tmp .nil))) rfl ?_
 exact ⟨_,rfl,(fresh (d:=kWork) (E.out.made 0 rfl) (Nat.le_refl _)),E.out.below⟩
theorem putS_b (k:Nat) (l0:List ByteArray) (l1:List S135) (l2:Int) (l3 l4 l5:List Int) (nz:(Bool×List ByteArray×List ByteArray×List Int)) (t:ByteArray) (q0:List ByteArray) (q1:List S135) (q2:Int) (q3 q4 q5:List Int) {cs cn:List Value} (w:World) (h:kWork.K w (l0,l1,l2,l3,l4,l5) cs) (hn:kNode.K w nz cn) (ft:spec_NodeText.f k nz.1 nz.2.1 nz.2.2.1 nz.2.2.2=some (t,true)) (hl:((l0.length≤2000000∧l1.length≤2000000)∧l3.length≤2000000∧l4.length≤2000000∧l5.length≤2000000)) (fg:spec_GivePage.f l0 l1 l2 l3 l4 l5=some (q0,q1,q2,q3,q4,q5,0)):
  Calls Try.prog 17 #[.agg cs.toArray,.agg cn.toArray] w fun e w'=>∃ds:List Value,e= .returned (.tuple #[.agg ds.toArray,.int .i64 0])∧kWork.M w' w.heap.size (Fr w w') (l0,l1,l2,l3,l4,l5) ds∧Below w.heap.size w w':=by
 have KS:=zz h;have KN:=zz hn;have Lcs:=zz (show cs.length=6 from Kd.K_len _ h);have Lcn:=zz (show cn.length=4 from Kd.K_len _ hn);clear h hn
 have FT:=zz ft;clear ft
 have FL:=zz hl;clear hl
 have FG:=zz fg;clear fg
 have O:=zz (Nat.le_refl w.heap.size)
 have E:=zz (Env.start w)
 go_enter Try.func17,Try.ntmps17
 go_wp2_with (first|((with_reducible refine zm (N:=13) rfl ?_);replace O:=zz (And.intro E.out.le O.out);replace E:=zz (E.out.alloc cs 34 (g:=w.heap.size) rfl);replace E:=zz (E.out.alloc cn 45 (g:=(w.heap.size+1)) zq52);replace E:=zz (E.out.alloc Z34 34 (g:=(w.heap.size+1+1)) zq52);refine zt rfl 45 _ rfl (w.heap.size+1) 0 [] cn [] _ rfl (E.out.box 1 rfl) zq13 (rfl) Try.underlying45 rfl zq125 ?_))
 ((with_reducible refine (textS_c k nz t true _ (E.out.K KN.out) FT.out).mono ?_);rintro e w1_ ⟨rfl,hb⟩)
 replace E:=zz (E.out.call hb);clear hb
 go_wp2_with (first|((with_reducible refine zm (N:=22) rfl ?_);refine zt rfl 34 _ rfl w.heap.size 0 [] cs [] _ rfl (E.out.box 2 rfl) zq13 (rfl) Try.underlying34 rfl zq110 ?_))
 ((with_reducible refine (giveS_c (l0,l1,l2,l3,l4,l5) (q0,q1,q2,q3,q4,q5) 0 _ (E.out.K KS.out) FG.out).mono ?_);rintro e w2_ ⟨d3_,rfl,Md3_,hb⟩)
 have q:=E.out.made4 O.out 6 rfl Md3_ hb;clear O E Md3_ hb;obtain ⟨n4_,m5_,Ld3_,Od3_,O,E⟩:=q
 go_wp2_with (first|((with_reducible refine zv (t:=34) (p:=8) rfl ?_);replace O:=zz (And.intro E.out.le O.out);replace E:=zz (E.out.alloc Z34 34 (g:=w2_.heap.size) rfl);refine zB rfl 34 _ _ rfl rfl w2_.heap.size 0 d3_ [] Z34 [] rfl rfl (E.out.box 0 rfl) zq13 (rfl) (zq99 Ld3_.out) (zq43 Ld3_.out) Od3_.out ?_;intro W6_ hp hn;replace E:=E.out.put2 0 hp hn zq19;clear hp hn)|((with_reducible refine zm (N:=28) rfl ?_);refine zt rfl 34 _ rfl w.heap.size 0 [] cs [] _ rfl (E.out.box 4 rfl) zq13 (rfl) Try.underlying34 rfl zq110 ?_))
 ((with_reducible refine (l08Copy_n l0 l1 l2 l3 l4 l5 _ (E.out.K KS.out) FL.out).mono ?_);rintro e w7_ ⟨d8_,rfl,Md8_,hb⟩)
 have q:=E.out.made4 O.out 6 rfl Md8_ hb;clear O E Md8_ hb;obtain ⟨n9_,m10_,Ld8_,Od8_,O,E⟩:=q
 go_wp2_with (first|((with_reducible refine zv (t:=34) (p:=4) rfl ?_);refine zB rfl 34 _ _ rfl rfl (w.heap.size+1+1) 0 d8_ [] Z34 [] rfl rfl (E.out.box 3 rfl) zq13 (rfl) (zq99 Ld8_.out) (zq43 Ld8_.out) Od8_.out ?_;intro W11_ hp hn;replace E:=E.out.put2 3 hp hn zq19;clear hp hn))
 have BX:=zz (show _=some (Obj.cells (d8_:List Value).toArray 34 (0,0)) from by first|exact (E.out.box 3 rfl)|simpa only [aA,aN,aL] using (E.out.box 3 rfl))
 refine bodyPost_ret (zea (rs:=[.cell 4 34,.tmp 5]) rfl zq52 (.cell (w.heap.size+1+1) 34 _ _ _ rfl BX.out Try.underlying34 rfl (by rw [List.size_toArray,show (d8_:List Value).length=6 from Ld8_.out];kernel_rfl) (.tmp .nil))) rfl ?_
 exact ⟨_,rfl,(fresh (d:=kWork) (E.out.made 0 rfl) (Nat.le_refl _)),E.out.below⟩
theorem putS_c (k:Nat) (l0:List ByteArray) (l1:List S135) (l2:Int) (l3 l4 l5:List Int) (nz:(Bool×List ByteArray×List ByteArray×List Int)) (t:ByteArray) (q0:List ByteArray) (q1:List S135) (q2:Int) (q3 q4 q5:List Int) (r:Int) (z:(List ByteArray×List S135)) {cs cn:List Value} (w:World) (h:kWork.K w (l0,l1,l2,l3,l4,l5) cs) (hn:kNode.K w nz cn) (ft:spec_NodeText.f k nz.1 nz.2.1 nz.2.2.1 nz.2.2.2=some (t,true)) (hl:((l0.length≤2000000∧l1.length≤2000000)∧l3.length≤2000000∧l4.length≤2000000∧l5.length≤2000000)) (fg:spec_GivePage.f l0 l1 l2 l3 l4 l5=some (q0,q1,q2,q3,q4,q5,r)) (fw:spec_WritePage.f k q0 q1 r t=some (z.1,z.2,false)) (hr:r≠0):
  Calls Try.prog 17 #[.agg cs.toArray,.agg cn.toArray] w fun e w'=>∃ds:List Value,e= .returned (.tuple #[.agg ds.toArray,.int .i64 0])∧kWork.M w' w.heap.size (Fr w w') (l0,l1,l2,l3,l4,l5) ds∧Below w.heap.size w w':=by
 replace hr:(r==0)=false:=beq_eq_false_iff_ne.2 hr
 have KS:=zz h;have KN:=zz hn;have Lcs:=zz (show cs.length=6 from Kd.K_len _ h);have Lcn:=zz (show cn.length=4 from Kd.K_len _ hn);clear h hn
 have FT:=zz ft;clear ft
 have FL:=zz hl;clear hl
 have FG:=zz fg;clear fg
 have FW:=zz fw;clear fw
 have O:=zz (Nat.le_refl w.heap.size)
 have E:=zz (Env.start w)
 go_enter Try.func17,Try.ntmps17
 go_wp2_with (first|((with_reducible refine zm (N:=13) rfl ?_);replace O:=zz (And.intro E.out.le O.out);replace E:=zz (E.out.alloc cs 34 (g:=w.heap.size) rfl);replace E:=zz (E.out.alloc cn 45 (g:=(w.heap.size+1)) zq52);replace E:=zz (E.out.alloc Z34 34 (g:=(w.heap.size+1+1)) zq52);refine zt rfl 45 _ rfl (w.heap.size+1) 0 [] cn [] _ rfl (E.out.box 1 rfl) zq13 (rfl) Try.underlying45 rfl zq125 ?_))
 ((with_reducible refine (textS_c k nz t true _ (E.out.K KN.out) FT.out).mono ?_);rintro e w1_ ⟨rfl,hb⟩)
 replace E:=zz (E.out.call hb);clear hb
 go_wp2_with (first|((with_reducible refine zm (N:=22) rfl ?_);refine zt rfl 34 _ rfl w.heap.size 0 [] cs [] _ rfl (E.out.box 2 rfl) zq13 (rfl) Try.underlying34 rfl zq110 ?_))
 ((with_reducible refine (giveS_c (l0,l1,l2,l3,l4,l5) (q0,q1,q2,q3,q4,q5) r _ (E.out.K KS.out) FG.out).mono ?_);rintro e w2_ ⟨d3_,rfl,Md3_,hb⟩)
 have Ld3_:=zz (show d3_.length=6 from Kd.K_len _ (Kd.K_of_M _ Md3_));have Od3_:=zz (one_of_K (Kd.K_of_M _ Md3_))
 obtain ⟨n4_,m5_,hT,hE⟩:=E.out.made_ Md3_ hb;replace O:=zz (And.intro hT O.out);replace E:=zz hE;clear hT hE Md3_ hb
 obtain ⟨g0,gR,hg,h0,hR,o0,oR⟩:=work_cut (E.out.made 0 rfl);have Eg:=zz hg;have Lg0:=zz h0;have LgR:=zz hR;have Og0:=zz o0;have OgR:=zz oR;clear hg h0 hR o0 oR
 go_wp2_with (first|((with_reducible refine zv (t:=34) (p:=8) rfl ?_);replace O:=zz (And.intro E.out.le O.out);replace E:=zz (E.out.alloc Z34 34 (g:=w2_.heap.size) rfl);refine zB rfl 34 _ _ rfl rfl w2_.heap.size 0 d3_ [] Z34 [] rfl rfl (E.out.box 0 rfl) zq13 (rfl) (zq99 Ld3_.out) (zq43 Ld3_.out) Od3_.out ?_;intro W6_ hp hn;replace E:=E.out.put2 0 hp hn zq19;clear hp hn)|((with_reducible refine zm (N:=32) rfl ?_);refine zt rfl 32 _ rfl w2_.heap.size 0 [] g0 gR _ rfl (E.out.box 0 rfl) zq96 (rfl) Try.underlying32 rfl (zq43 Lg0.out) ?_))
 ((with_reducible refine (writeS_c k (q0,q1) z r t false _ (work_disk (z:=(q0,q1,q2,q3,q4,q5)) zq135 Lg0.out) FW.out).mono ?_);rintro e w7_ ⟨d8_,rfl,Md8_,hb⟩)
 have q:=E.out.made4 O.out 2 rfl Md8_ hb;clear O E Md8_ hb;obtain ⟨n9_,m10_,Ld8_,Od8_,O,E⟩:=q
 go_wp2_with (first|((with_reducible refine zv (t:=32) (p:=10) rfl ?_);replace O:=zz (And.intro E.out.le O.out);replace E:=zz (E.out.alloc [.slice none 0 0,.slice none 0 0] 32 (g:=w7_.heap.size) rfl);refine zB rfl 32 _ _ rfl rfl w7_.heap.size 0 d8_ [] [.slice none 0 0,.slice none 0 0] [] rfl rfl (E.out.box 0 rfl) zq13 (rfl) (zq99 Ld8_.out) (zq43 Ld8_.out) Od8_.out ?_;intro W11_ hp hn;replace E:=E.out.put2 0 hp hn zq19;clear hp hn)|((with_reducible refine zm (N:=40) rfl ?_);refine zt rfl 34 _ rfl w.heap.size 0 [] cs [] _ rfl (E.out.box 6 rfl) zq13 (rfl) Try.underlying34 rfl zq110 ?_))
 ((with_reducible refine (l08Copy_n l0 l1 l2 l3 l4 l5 _ (E.out.K KS.out) FL.out).mono ?_);rintro e w12_ ⟨d13_,rfl,Md13_,hb⟩)
 have q:=E.out.made4 O.out 6 rfl Md13_ hb;clear O E Md13_ hb;obtain ⟨n14_,m15_,Ld13_,Od13_,O,E⟩:=q
 go_wp2_with (first|((with_reducible refine zv (t:=34) (p:=4) rfl ?_);refine zB rfl 34 _ _ rfl rfl (w.heap.size+1+1) 0 d13_ [] Z34 [] rfl rfl (E.out.box 5 rfl) zq13 (rfl) (zq99 Ld13_.out) (zq43 Ld13_.out) Od13_.out ?_;intro W16_ hp hn;replace E:=E.out.put2 5 hp hn zq19;clear hp hn))
 have BX:=zz (show _=some (Obj.cells (d13_:List Value).toArray 34 (0,0)) from by first|exact (E.out.box 5 rfl)|simpa only [aA,aN,aL] using (E.out.box 5 rfl))
 refine bodyPost_ret (zea (rs:=[.cell 4 34,.tmp 5]) rfl zq52 (.cell (w.heap.size+1+1) 34 _ _ _ rfl BX.out Try.underlying34 rfl (by rw [List.size_toArray,show (d13_:List Value).length=6 from Ld13_.out];kernel_rfl) (.tmp .nil))) rfl ?_
 exact ⟨_,rfl,(fresh (d:=kWork) (E.out.made 0 rfl) (Nat.le_refl _)),E.out.below⟩
theorem putS_d (k:Nat) (l0:List ByteArray) (l1:List S135) (l2:Int) (l3 l4 l5:List Int) (nz:(Bool×List ByteArray×List ByteArray×List Int)) (t:ByteArray) (q0:List ByteArray) (q1:List S135) (q2:Int) (q3 q4 q5:List Int) (r:Int) (z:(List ByteArray×List S135)) {cs cn:List Value} (w:World) (h:kWork.K w (l0,l1,l2,l3,l4,l5) cs) (hn:kNode.K w nz cn) (ft:spec_NodeText.f k nz.1 nz.2.1 nz.2.2.1 nz.2.2.2=some (t,true)) (fg:spec_GivePage.f l0 l1 l2 l3 l4 l5=some (q0,q1,q2,q3,q4,q5,r)) (fw:spec_WritePage.f k q0 q1 r t=some (z.1,z.2,true)) (hr:r≠0):
  Calls Try.prog 17 #[.agg cs.toArray,.agg cn.toArray] w fun e w'=>∃ds:List Value,e= .returned (.tuple #[.agg ds.toArray,.int .i64 r])∧kWork.M w' w.heap.size (Fr w w') (z.1,z.2,q2,q3,q4,q5) ds∧Below w.heap.size w w':=by
 replace hr:(r==0)=false:=beq_eq_false_iff_ne.2 hr
 have KS:=zz h;have KN:=zz hn;have Lcs:=zz (show cs.length=6 from Kd.K_len _ h);have Lcn:=zz (show cn.length=4 from Kd.K_len _ hn);clear h hn
 have FT:=zz ft;clear ft
 have FG:=zz fg;clear fg
 have FW:=zz fw;clear fw
 have O:=zz (Nat.le_refl w.heap.size)
 have E:=zz (Env.start w)
 go_enter Try.func17,Try.ntmps17
 go_wp2_with (first|((with_reducible refine zm (N:=13) rfl ?_);replace O:=zz (And.intro E.out.le O.out);replace E:=zz (E.out.alloc cs 34 (g:=w.heap.size) rfl);replace E:=zz (E.out.alloc cn 45 (g:=(w.heap.size+1)) zq52);replace E:=zz (E.out.alloc Z34 34 (g:=(w.heap.size+1+1)) zq52);refine zt rfl 45 _ rfl (w.heap.size+1) 0 [] cn [] _ rfl (E.out.box 1 rfl) zq13 (rfl) Try.underlying45 rfl zq125 ?_))
 ((with_reducible refine (textS_c k nz t true _ (E.out.K KN.out) FT.out).mono ?_);rintro e w1_ ⟨rfl,hb⟩)
 replace E:=zz (E.out.call hb);clear hb
 go_wp2_with (first|((with_reducible refine zm (N:=22) rfl ?_);refine zt rfl 34 _ rfl w.heap.size 0 [] cs [] _ rfl (E.out.box 2 rfl) zq13 (rfl) Try.underlying34 rfl zq110 ?_))
 ((with_reducible refine (giveS_c (l0,l1,l2,l3,l4,l5) (q0,q1,q2,q3,q4,q5) r _ (E.out.K KS.out) FG.out).mono ?_);rintro e w2_ ⟨d3_,rfl,Md3_,hb⟩)
 have Ld3_:=zz (show d3_.length=6 from Kd.K_len _ (Kd.K_of_M _ Md3_));have Od3_:=zz (one_of_K (Kd.K_of_M _ Md3_))
 obtain ⟨n4_,m5_,hT,hE⟩:=E.out.made_ Md3_ hb;replace O:=zz (And.intro hT O.out);replace E:=zz hE;clear hT hE Md3_ hb
 obtain ⟨g0,gR,hg,h0,hR,o0,oR⟩:=work_cut (E.out.made 0 rfl);have Eg:=zz hg;have Lg0:=zz h0;have LgR:=zz hR;have Og0:=zz o0;have OgR:=zz oR;clear hg h0 hR o0 oR
 go_wp2_with (first|((with_reducible refine zv (t:=34) (p:=8) rfl ?_);replace O:=zz (And.intro E.out.le O.out);replace E:=zz (E.out.alloc Z34 34 (g:=w2_.heap.size) rfl);refine zB rfl 34 _ _ rfl rfl w2_.heap.size 0 d3_ [] Z34 [] rfl rfl (E.out.box 0 rfl) zq13 (rfl) (zq99 Ld3_.out) (zq43 Ld3_.out) Od3_.out ?_;intro W6_ hp hn;replace E:=E.out.put2 0 hp hn zq19;clear hp hn)|((with_reducible refine zm (N:=32) rfl ?_);refine zt rfl 32 _ rfl w2_.heap.size 0 [] g0 gR _ rfl (E.out.box 0 rfl) zq96 (rfl) Try.underlying32 rfl (zq43 Lg0.out) ?_))
 ((with_reducible refine (writeS_c k (q0,q1) z r t true _ (work_disk (z:=(q0,q1,q2,q3,q4,q5)) zq135 Lg0.out) FW.out).mono ?_);rintro e w7_ ⟨d8_,rfl,Md8_,hb⟩)
 have q:=E.out.made4 O.out 2 rfl Md8_ hb;clear O E Md8_ hb;obtain ⟨n9_,m10_,Ld8_,Od8_,O,E⟩:=q
 obtain ⟨c13_,Ec13_,Lc13_,Oc13_⟩:=lump_ (d8_++gR) 6 (by simp only [List.length_append,List.length_cons,List.length_nil,Ld8_.out,LgR.out]) (zva Od8_.out OgR.out)
 go_wp2_with (first|((with_reducible refine zv (t:=32) (p:=10) rfl ?_);replace O:=zz (And.intro E.out.le O.out);replace E:=zz (E.out.alloc [.slice none 0 0,.slice none 0 0] 32 (g:=w7_.heap.size) rfl);refine zB rfl 32 _ _ rfl rfl w7_.heap.size 0 d8_ [] [.slice none 0 0,.slice none 0 0] [] rfl rfl (E.out.box 0 rfl) zq13 (rfl) (zq99 Ld8_.out) (zq43 Ld8_.out) Od8_.out ?_;intro W11_ hp hn;replace E:=E.out.put2 0 hp hn zq19;clear hp hn)|((with_reducible refine zm (N:=42) rfl ?_);refine zt rfl 32 _ rfl w7_.heap.size 0 [] d8_ [] _ rfl (E.out.box 0 rfl) zq13 (rfl) Try.underlying32 rfl (zq43 Ld8_.out) ?_)|((with_reducible refine zv (t:=32) (p:=43) rfl ?_);refine zB rfl 32 _ _ rfl rfl w2_.heap.size 0 d8_ [] g0 gR rfl rfl (E.out.box 2 rfl) zq96 (rfl) (by rw [Ld8_.out,Lg0.out]) (zq43 Ld8_.out) Od8_.out ?_;intro W12_ hp hn;replace E:=E.out.put2 2 hp hn zq19;clear hp hn)|((with_reducible refine zm (N:=44) rfl ?_);refine zt rfl 34 _ rfl w2_.heap.size 0 [] c13_ [] _ rfl (E.out.box 2 rfl) (zq118 Ec13_.out) (rfl) Try.underlying34 rfl (zq43 Lc13_.out) ?_)|((with_reducible refine zv (t:=34) (p:=4) rfl ?_);refine zB rfl 34 _ _ rfl rfl (w.heap.size+1+1) 0 c13_ [] Z34 [] rfl rfl (E.out.box 4 rfl) zq13 (rfl) (zq99 Lc13_.out) (zq43 Lc13_.out) Oc13_.out ?_;intro W14_ hp hn;replace E:=E.out.put2 4 hp hn zq19;clear hp hn))
 have BX:=zz (show _=some (Obj.cells (c13_:List Value).toArray 34 (0,0)) from by first|exact (E.out.box 4 rfl)|simpa only [aA,aN,aL] using (E.out.box 4 rfl))
 refine bodyPost_ret (zea (rs:=[.cell 4 34,.tmp 5]) rfl zq52 (.cell (w.heap.size+1+1) 34 _ _ _ rfl BX.out Try.underlying34 rfl (by rw [List.size_toArray,show (c13_:List Value).length=6 from Lc13_.out];kernel_rfl) (.tmp .nil))) rfl ?_
 exact ⟨_,rfl,(zq98 Ec13_.out Lg0.out),E.out.below⟩
theorem Env.atTop {w0 W:World} {top t:Nat} {fs:List Fct} (E:Env w0 W top fs) (h:t=top):Env w0 W t fs:=by subst h;exact E
def szWork_c_f (k:Nat) (z0:(List ByteArray×List S140×Int×List Int×List Int×List Int)) (a:Int):Option Int:=laws_szWork.f k z0.1 z0.2.1 z0.2.2.1 z0.2.2.2.1 z0.2.2.2.2.1 z0.2.2.2.2.2 a
theorem szWork_c (k:Nat) (z0:(List ByteArray×List S140×Int×List Int×List Int×List Int)) {cs0:List Value} (a:Int) (r:Int) (w:World) (h0:kWorkL.K w z0 cs0) (hf:szWork_c_f k z0 a=some r):
  Calls Try.prog 9 #[.agg cs0.toArray,.int .i64 a] w fun e w'=>e= .returned (.int .i64 r)∧Below w.heap.size w w':=by
 obtain ⟨l_00,l_01,l_02,l_03,l_04,l_05⟩:=z0
 obtain ⟨A_00,c_00,A_01,c_01,A_03,c_03,A_04,c_04,A_05,c_05,rfl,m_00,r_00,m_01,r_01,m_03,r_03,m_04,r_04,m_05,r_05⟩:=kWorkL_open h0
 exact laws_szWork.calls k A_00 c_00 l_00 A_01 c_01 l_01 l_02 A_03 c_03 l_03 A_04 c_04 l_04 A_05 c_05 l_05 a r w r_00 m_00 r_01 m_01 r_03 m_03 r_04 m_04 r_05 m_05 hf
def MarkWork (k:Nat) (z:(List ByteArray×List S135×Int×List Int×List Int×List Int)) (a:Int) (z':(List ByteArray×List S135×Int×List Int×List Int×List Int)) (r:Int):Prop:=∃t1 t2 t3:Int,laws_markDisk.f k z.1 z.2.1 a=some (t1,z'.1,z'.2.1)∧laws_markIntS.f k z.2.2.2.1 t1=some (t2,z'.2.2.2.1)∧laws_markIntS.f k z.2.2.2.2.1 t2=some (t3,z'.2.2.2.2.1)∧laws_markIntS.f k z.2.2.2.2.2 t3=some (r,z'.2.2.2.2.2)∧z'.2.2.1=z.2.2.1
theorem markWork_c (k:Nat) (z:(List ByteArray×List S135×Int×List Int×List Int×List Int)) (a:Int) (z':(List ByteArray×List S135×Int×List Int×List Int×List Int)) (r:Int) (ok:Nat→Prop) {cs:List Value} (w0 w:World) (hB:Below w0.heap.size w0 w) (hk:∀k,ok k→k<w.heap.size) (h:kWork.M w w0.heap.size ok z cs) (hf:MarkWork k z a z' r):
  Calls Try.prog 14 #[.agg cs.toArray,.int .i64 a] w fun e w'=>e= .returned (.int .i64 r)∧kWork.M w' w0.heap.size ok z' cs∧Below w0.heap.size w0 w'∧Kept w w' ok:=by
 obtain ⟨l0,l1,l2,l3,l4,l5⟩:=z
 obtain ⟨q0,q1,q2,q3,q4,q5⟩:=z'
 obtain ⟨t1,t2,t3,f1,f2,f3,f4,rfl⟩:=hf
 exact markWork_o k l0 l1 _ l3 l4 l5 q0 q1 q3 q4 q5 a t1 t2 t3 r ok w0 w hB hk h f1 f2 f3 f4
def ImplPN (k:Nat) (d:(List ByteArray×List S135×Int×List Int×List Int×List Int)) (nz:(Bool×List ByteArray×List ByteArray×List Int)) (z:(List ByteArray×List S135×Int×List Int×List Int×List Int)) (p:Int):Prop:=((d.1.length≤2000000∧d.2.1.length≤2000000)∧d.2.2.2.1.length≤2000000∧d.2.2.2.2.1.length≤2000000∧d.2.2.2.2.2.length≤2000000)∧∃t b,impl_NodeText.f k nz.1 nz.2.1 nz.2.2.1 nz.2.2.2=some (t,b)∧((b=false∧z=d∧p=0)∨(b=true∧∃(q:(List ByteArray×List S135×Int×List Int×List Int×List Int)) (r:Int),impl_GivePage.f d.1 d.2.1 d.2.2.1 d.2.2.2.1 d.2.2.2.2.1 d.2.2.2.2.2=some (q.1,q.2.1,q.2.2.1,q.2.2.2.1,q.2.2.2.2.1,q.2.2.2.2.2,r)∧((r=0∧z=d∧p=0)∨(r≠0∧∃(y:(List ByteArray×List S135)) (c:Bool),impl_WritePage.f q.1 q.2.1 r t=some (y.1,y.2,c)∧((c=false∧z=d∧p=0)∨(c=true∧z=(y.1,y.2,q.2.2)∧p=r))))))
theorem implPN_c (k:Nat) (d:(List ByteArray×List S135×Int×List Int×List Int×List Int)) (nz:(Bool×List ByteArray×List ByteArray×List Int)) (z:(List ByteArray×List S135×Int×List Int×List Int×List Int)) (p:Int) {cs cn:List Value} (w:World) (h:kWork.K w d cs) (hn:kNode.K w nz cn) (hf:ImplPN k d nz z p):
  Calls Try.prog 19 #[.agg cs.toArray,.agg cn.toArray] w fun e w'=>∃ds:List Value,e= .returned (.tuple #[.agg ds.toArray,.int .i64 p])∧kWork.M w' w.heap.size (Fr w w') z ds∧Below w.heap.size w w':=by
 obtain ⟨l0,l1,l2,l3,l4,l5⟩:=d
 obtain ⟨hl,t,b,ft,⟨rfl,rfl,rfl⟩|⟨rfl,⟨q0,q1,q2,q3,q4,q5⟩,r,fg,⟨rfl,rfl,rfl⟩|⟨hr,y,c,fw,⟨rfl,rfl,rfl⟩|⟨rfl,rfl,rfl⟩⟩⟩⟩:=hf
 ·exact putI_a k l0 l1 l2 l3 l4 l5 nz t w h hn ft hl
 ·exact putI_b k l0 l1 l2 l3 l4 l5 nz t q0 q1 q2 q3 q4 q5 w h hn ft hl fg
 ·exact putI_c k l0 l1 l2 l3 l4 l5 nz t q0 q1 q2 q3 q4 q5 r y w h hn ft hl fg fw hr
 ·exact putI_d k l0 l1 l2 l3 l4 l5 nz t q0 q1 q2 q3 q4 q5 _ y w h hn ft fg fw hr
def SpecPN (k:Nat) (d:(List ByteArray×List S135×Int×List Int×List Int×List Int)) (nz:(Bool×List ByteArray×List ByteArray×List Int)) (z:(List ByteArray×List S135×Int×List Int×List Int×List Int)) (p:Int):Prop:=((d.1.length≤2000000∧d.2.1.length≤2000000)∧d.2.2.2.1.length≤2000000∧d.2.2.2.2.1.length≤2000000∧d.2.2.2.2.2.length≤2000000)∧∃t b,spec_NodeText.f k nz.1 nz.2.1 nz.2.2.1 nz.2.2.2=some (t,b)∧((b=false∧z=d∧p=0)∨(b=true∧∃(q:(List ByteArray×List S135×Int×List Int×List Int×List Int)) (r:Int),spec_GivePage.f d.1 d.2.1 d.2.2.1 d.2.2.2.1 d.2.2.2.2.1 d.2.2.2.2.2=some (q.1,q.2.1,q.2.2.1,q.2.2.2.1,q.2.2.2.2.1,q.2.2.2.2.2,r)∧((r=0∧z=d∧p=0)∨(r≠0∧∃(y:(List ByteArray×List S135)) (c:Bool),spec_WritePage.f k q.1 q.2.1 r t=some (y.1,y.2,c)∧((c=false∧z=d∧p=0)∨(c=true∧z=(y.1,y.2,q.2.2)∧p=r))))))
theorem specPN_c (k:Nat) (d:(List ByteArray×List S135×Int×List Int×List Int×List Int)) (nz:(Bool×List ByteArray×List ByteArray×List Int)) (z:(List ByteArray×List S135×Int×List Int×List Int×List Int)) (p:Int) {cs cn:List Value} (w:World) (h:kWork.K w d cs) (hn:kNode.K w nz cn) (hf:SpecPN k d nz z p):
  Calls Try.prog 17 #[.agg cs.toArray,.agg cn.toArray] w fun e w'=>∃ds:List Value,e= .returned (.tuple #[.agg ds.toArray,.int .i64 p])∧kWork.M w' w.heap.size (Fr w w') z ds∧Below w.heap.size w w':=by
 obtain ⟨l0,l1,l2,l3,l4,l5⟩:=d
 obtain ⟨hl,t,b,ft,⟨rfl,rfl,rfl⟩|⟨rfl,⟨q0,q1,q2,q3,q4,q5⟩,r,fg,⟨rfl,rfl,rfl⟩|⟨hr,y,c,fw,⟨rfl,rfl,rfl⟩|⟨rfl,rfl,rfl⟩⟩⟩⟩:=hf
 ·exact putS_a k l0 l1 l2 l3 l4 l5 nz t w h hn ft hl
 ·exact putS_b k l0 l1 l2 l3 l4 l5 nz t q0 q1 q2 q3 q4 q5 w h hn ft hl fg
 ·exact putS_c k l0 l1 l2 l3 l4 l5 nz t q0 q1 q2 q3 q4 q5 r y w h hn ft hl fg fw hr
 ·exact putS_d k l0 l1 l2 l3 l4 l5 nz t q0 q1 q2 q3 q4 q5 _ y w h hn ft fg fw hr
theorem pn_small0 (k:Nat) (a0:(List ByteArray×List S140×Int×List Int×List Int×List Int)) (a1:(Bool×List ByteArray×List ByteArray×List Int)) (r0:Int) {cs0:List Value} {cs1:List Value} (w:World) (h0:kWorkL.K w a0 cs0) (h1:kNode.K w a1 cs1) (hs0:szWork_c_f k a0 1048576=some r0) (hr0:r0<0):
  Calls Try.prog 4 #[.agg cs0.toArray,.agg cs1.toArray] w fun e w'=>e= .returned (.bool true)∧Below w.heap.size w w':=by
 have KA0:=zz h0;have LA0:=zz (show cs0.length=6 from Kd.K_len _ h0);clear h0
 have KA1:=zz h1;have LA1:=zz (show cs1.length=4 from Kd.K_len _ h1);clear h1
 have HS0:=zz hs0;clear hs0
 replace hr0:decide (r0<0)=true:=decide_eq_true hr0
 have O:=zz (Nat.le_refl w.heap.size)
 have E:=zz (Env.start w)
 go_enter Try.func4,Try.ntmps4
 go_wp2_with (first|((with_reducible refine zm (N:=17) rfl ?_);replace O:=zz (And.intro E.out.le O.out);replace E:=zz (E.out.alloc cs0 28 (g:=w.heap.size) rfl);replace E:=zz (E.out.alloc cs1 42 (g:=(w.heap.size+1)) zq52);refine zt rfl 28 _ rfl w.heap.size 0 [] cs0 [] _ rfl (E.out.box 1 rfl) zq13 (rfl) Try.underlying28 rfl (zq43 LA0.out) ?_))
 ((with_reducible refine (szWork_c k a0 1048576 r0 _ (E.out.K KA0.out) HS0.out).mono ?_);rintro e w1_ ⟨rfl,hb⟩)
 replace E:=zz (E.out.call hb);clear hb
 go_wp2_with fail
 go_ret
 exact ⟨rfl,E.out.below⟩
theorem pn_small1 (k:Nat) (a0:(List ByteArray×List S140×Int×List Int×List Int×List Int)) (a1:(Bool×List ByteArray×List ByteArray×List Int)) (r0:Int) (r1:Int) {cs0:List Value} {cs1:List Value} (w:World) (h0:kWorkL.K w a0 cs0) (h1:kNode.K w a1 cs1) (hs0:szWork_c_f k a0 1048576=some r0) (hs1:szNode_c_f k a1 r0=some r1) (hr0:¬r0<0) (hr1:r1<0):
  Calls Try.prog 4 #[.agg cs0.toArray,.agg cs1.toArray] w fun e w'=>e= .returned (.bool true)∧Below w.heap.size w w':=by
 have KA0:=zz h0;have LA0:=zz (show cs0.length=6 from Kd.K_len _ h0);clear h0
 have KA1:=zz h1;have LA1:=zz (show cs1.length=4 from Kd.K_len _ h1);clear h1
 have HS0:=zz hs0;clear hs0
 have HS1:=zz hs1;clear hs1
 replace hr0:decide (r0<0)=false:=decide_eq_false hr0
 replace hr1:decide (r1<0)=true:=decide_eq_true hr1
 have O:=zz (Nat.le_refl w.heap.size)
 have E:=zz (Env.start w)
 go_enter Try.func4,Try.ntmps4
 go_wp2_with (first|((with_reducible refine zm (N:=17) rfl ?_);replace O:=zz (And.intro E.out.le O.out);replace E:=zz (E.out.alloc cs0 28 (g:=w.heap.size) rfl);replace E:=zz (E.out.alloc cs1 42 (g:=(w.heap.size+1)) zq52);refine zt rfl 28 _ rfl w.heap.size 0 [] cs0 [] _ rfl (E.out.box 1 rfl) zq13 (rfl) Try.underlying28 rfl (zq43 LA0.out) ?_))
 ((with_reducible refine (szWork_c k a0 1048576 r0 _ (E.out.K KA0.out) HS0.out).mono ?_);rintro e w1_ ⟨rfl,hb⟩)
 replace E:=zz (E.out.call hb);clear hb
 go_wp2_with (first|((with_reducible refine zm (N:=22) rfl ?_);refine zt rfl 42 _ rfl (w.heap.size+1) 0 [] cs1 [] _ rfl (E.out.box 0 rfl) zq13 (rfl) Try.underlying42 rfl (zq43 LA1.out) ?_))
 ((with_reducible refine (szNode_c k a1 r0 r1 _ (E.out.K KA1.out) HS1.out).mono ?_);rintro e w2_ ⟨rfl,hb⟩)
 replace E:=zz (E.out.call hb);clear hb
 go_wp2_with fail
 go_ret
 exact ⟨rfl,E.out.below⟩
def pn_great_T8:Bool×List (List Nat×List Nat):=(true,[([],[]),([0],[0]),([],[]),([2,1],[2]),([1,3,3],[1,3]),([4],[4]),([5],[5]),([5],[5]),([],[]),([8,6,4,0,1,2,3,4,5,6,8],[6,8]),([7,9,0,1,2,3,4,5,6,7,8,9],[7])])
def pn_great_B8:List Nat:=[0,1,0,7,15,31,63,63,0,383,1023]
theorem pn_great_ok8_0:regT (opsOf Try.f4 8) pn_great_T8 pn_great_B8 [9] (.t 0 (.t 2 (.two 1 8 (.two 3 8 (.two 4 8 (.p 5 (.p 6 (.p 7 (.e 8 (.l 9 (.p 10 .d)))))) (.e 4 (.p 5 (.p 6 (.p 7 (.l 9 (.p 10 .d))))))) (.e 3 (.e 4 (.p 5 (.p 6 (.p 7 (.l 9 (.p 10 .d)))))))) (.e 1 (.e 3 (.e 4 (.p 5 (.p 6 (.p 7 (.l 9 (.p 10 .d)))))))))))=true:=zq15
def pn_great_T14:Bool×List (List Nat×List Nat):=(true,[([],[]),([],[]),([1],[1]),([0,2,2],[0,2]),([3],[3])])
def pn_great_B14:List Nat:=[0,0,2,7,15]
theorem pn_great_ok14_1:regT (opsOf Try.f4 14) pn_great_T14 pn_great_B14 [] (.t 0 (.t 1 (.e 2 (.e 3 (.p 4 .d)))))=true:=zq15
def pn_great_T16:Bool×List (List Nat×List Nat):=(true,[([],[]),([],[]),([1],[1]),([0,2,2],[0,2]),([3],[3])])
def pn_great_B16:List Nat:=[0,0,2,7,15]
theorem pn_great_ok16_2:regT (opsOf Try.f4 16) pn_great_T16 pn_great_B16 [] (.t 0 (.t 1 (.e 2 (.e 3 (.p 4 .d)))))=true:=zq15
def pn_great_T31:Bool×List (List Nat×List Nat):=(true,[([],[]),([0],[0]),([],[]),([2,1],[2]),([1,3,3],[1,3]),([4],[4]),([5],[5]),([5],[5]),([],[]),([8,6,4,0,1,2,3,4,5,6,8],[6,8]),([7,9,0,1,2,3,4,5,6,7,8,9],[7])])
def pn_great_B31:List Nat:=[0,1,0,7,15,31,63,63,0,383,1023]
theorem pn_great_ok31_3:regT (opsOf Try.f4 31) pn_great_T31 pn_great_B31 [9] (.t 0 (.t 2 (.two 1 8 (.two 3 8 (.two 4 8 (.p 5 (.p 6 (.p 7 (.e 8 (.l 9 (.p 10 .d)))))) (.e 4 (.p 5 (.p 6 (.p 7 (.l 9 (.p 10 .d))))))) (.e 3 (.e 4 (.p 5 (.p 6 (.p 7 (.l 9 (.p 10 .d)))))))) (.e 1 (.e 3 (.e 4 (.p 5 (.p 6 (.p 7 (.l 9 (.p 10 .d)))))))))))=true:=zq15
theorem pn_great (k:Nat) (a0:(List ByteArray×List S140×Int×List Int×List Int×List Int)) (a1:(Bool×List ByteArray×List ByteArray×List Int)) (r0:Int) (r1:Int) (d0 d0_:(List ByteArray×List S135×Int×List Int×List Int×List Int)) (d1 d1_:(Bool×List ByteArray×List ByteArray×List Int)) (z0 z0_:(List ByteArray×List S135×Int×List Int×List Int×List Int)) (z1:Int) (mk0:Int) (mk1:Int) (mg0:Int) {cs0:List Value} {cs1:List Value} (w:World) (h0:kWorkL.K w a0 cs0) (h1:kNode.K w a1 cs1) (hs0:szWork_c_f k a0 1048576=some r0) (hs1:szNode_c_f k a1 r0=some r1) (ht0:ToWork k a0 d0) (ht1:ToNode k a1 d1) (hsp:SpecPN k d0 d1 z0 z1) (him:ImplPN k d0 d1 z0 z1) (heq0:EqWork k z0) (hex0:EqWork k d0) (hex1:EqNode k d1) (hmk0:MarkWork k d0 1 d0_ mk0) (hmk1:MarkNode k d1 mk0 d1_ mk1) (hmg0:MarkWork k z0 1 z0_ mg0) (hhd0:HeldWork k z0_ 1 mg0) (hr0:¬r0<0) (hr1:¬r1<0) (hm:¬mk1<0) (hg0:¬mg0<0):
  Calls Try.prog 4 #[.agg cs0.toArray,.agg cs1.toArray] w fun e w'=>e= .returned (.bool true)∧Below w.heap.size w w':=by
 have KA0:=zz h0;have LA0:=zz (show cs0.length=6 from Kd.K_len _ h0);clear h0
 have KA1:=zz h1;have LA1:=zz (show cs1.length=4 from Kd.K_len _ h1);clear h1
 have HS0:=zz hs0;clear hs0
 have HS1:=zz hs1;clear hs1
 have HT0:=zz ht0;clear ht0
 have HT1:=zz ht1;clear ht1
 have HSP:=zz hsp;clear hsp
 have HIM:=zz him;clear him
 have HEQ0:=zz heq0;clear heq0
 have HEX0:=zz hex0;clear hex0
 have HEX1:=zz hex1;clear hex1
 have HMK0:=zz hmk0;clear hmk0
 have HMK1:=zz hmk1;clear hmk1
 have HMG0:=zz hmg0;clear hmg0
 have HHD0:=zz hhd0;clear hhd0
 replace hr0:decide (r0<0)=false:=decide_eq_false hr0
 replace hr1:decide (r1<0)=false:=decide_eq_false hr1
 replace hm:decide (mk1<0)=false:=decide_eq_false hm
 replace hg0:decide (mg0<0)=false:=decide_eq_false hg0
 have O:=zz (Nat.le_refl w.heap.size)
 have E:=zz (Env.start w)
 go_enter Try.func4,Try.ntmps4
 go_wp2_with (first|((with_reducible refine zm (N:=17) rfl ?_);replace O:=zz (And.intro E.out.le O.out);replace E:=zz (E.out.alloc cs0 28 (g:=w.heap.size) rfl);replace E:=zz (E.out.alloc cs1 42 (g:=(w.heap.size+1)) zq52);refine zt rfl 28 _ rfl w.heap.size 0 [] cs0 [] _ rfl (E.out.box 1 rfl) zq13 (rfl) Try.underlying28 rfl (zq43 LA0.out) ?_))
 ((with_reducible refine (szWork_c k a0 1048576 r0 _ (E.out.K KA0.out) HS0.out).mono ?_);rintro e w1_ ⟨rfl,hb⟩)
 replace E:=zz (E.out.call hb);clear hb
 go_wp2_with (first|((with_reducible refine zm (N:=22) rfl ?_);refine zt rfl 42 _ rfl (w.heap.size+1) 0 [] cs1 [] _ rfl (E.out.box 0 rfl) zq13 (rfl) Try.underlying42 rfl (zq43 LA1.out) ?_))
 ((with_reducible refine (szNode_c k a1 r0 r1 _ (E.out.K KA1.out) HS1.out).mono ?_);rintro e w2_ ⟨rfl,hb⟩)
 replace E:=zz (E.out.call hb);clear hb
 go_upto_region 8 with (fail)
 replace E:=zz E.out.drew
 refine zxa pn_great_ok8_0 (S:=fun w'=>w'.heap[w.heap.size]?=some (.cells (cs0:List Value).toArray 28 (0,0))∧w'.heap[(w.heap.size+1)]?=some (.cells (cs1:List Value).toArray 42 (0,0))∧True) zq15 (fun _ _ _ _ h=>h) ⟨(E.out.box 1 rfl),(E.out.box 0 rfl),trivial⟩ (fun hHeld=> ?_)
 generalize hq:World.drew _=w3_ at hHeld ⊢;replace E:=E.out.to hq;clear hq
 refine zS (a':= ?_) rfl rfl zq44 28 _ rfl w.heap.size 0 [] cs0 [] _ rfl (fun w' hs=>hs.1) zq13 (rfl) Try.underlying28 rfl (zq43 LA0.out) zq7 ?_
 refine zS (a':= ?_) rfl rfl zq44 42 _ rfl (w.heap.size+1) 0 [] cs1 [] _ rfl (fun w' hs=>hs.2.1) zq13 (rfl) Try.underlying42 rfl (zq43 LA1.out) zq7 ?_
 refine zcb rfl rfl (zH rfl Try.func11 zq15 rfl #[.agg cs0.toArray] zq44 rfl zq31 ?_) (zya rfl zq44 34 rfl Z34 zq15 ?_)
 focus
  with_reducible refine (toWork_c k a0 d0 _ (E.out.K KA0.out) HT0.out).mono ?_
  rintro e wr8o1_ ⟨dr8o1__,rfl,Mdr8o1__,hb⟩
  have q:=E.out.made4 O.out 6 rfl Mdr8o1__ hb;clear O E Mdr8o1__ hb;obtain ⟨nr8o1___,mr8o1____,Ldr8o1__,Odr8o1__,O,E⟩:=q
  refine ⟨_,rfl,⟨(E.out.box 2 rfl),(E.out.box 1 rfl),trivial⟩,(fun hHeld=> ?_)⟩
  refine zy (a':= ?_) zq7 ?_
  refine zcb rfl rfl (zH rfl Try.func18 zq15 rfl #[.agg cs1.toArray] zq44 rfl zq31 ?_) (zya rfl zq44 34 rfl Z34 zq15 ?_)
  focus
   with_reducible refine (zHa k a1 d1 _ (E.out.K KA1.out) HT1.out).mono ?_
   rintro e wr8o3_ ⟨dr8o3__,rfl,Mdr8o3__,hb⟩
   have q:=E.out.made4 O.out 4 rfl Mdr8o3__ hb;clear O E Mdr8o3__ hb;obtain ⟨nr8o3___,mr8o3____,Ldr8o3__,Odr8o3__,O,E⟩:=q
   refine ⟨_,rfl,⟨(E.out.box 3 rfl),(E.out.box 2 rfl),trivial⟩,(fun hHeld=> ?_)⟩
   refine zy (a':= ?_) zq7 ?_
   refine zcb rfl rfl (zH rfl Try.func17 zq15 rfl #[.agg dr8o1__.toArray,.agg dr8o3__.toArray] zq44 rfl zq31 ?_) (zya rfl zq44 34 rfl Z34 zq15 ?_)
   focus
    with_reducible refine (specPN_c k d0 d1 z0 z1 _ (E.out.mk_ 1 rfl) (E.out.mk_ 0 rfl) HSP.out).mono ?_
    rintro e wr8o4_ ⟨dr8o4__,rfl,Mdr8o4__,hb⟩
    have q:=E.out.made4 O.out 6 rfl Mdr8o4__ hb;clear O E Mdr8o4__ hb;obtain ⟨nr8o4___,mr8o4____,Ldr8o4__,Odr8o4__,O,E⟩:=q
    refine ⟨_,rfl,⟨(E.out.box 4 rfl),(E.out.box 3 rfl),trivial⟩,(fun hHeld=> ?_)⟩
    refine zy (a':= ?_) zq7 ?_
    iterate 3 (refine zha (v:= ?_) (a':= ?_) rfl rfl (Or.inl ⟨zq44,zq27⟩) zq7 ?_)
    refine zwa rfl (zya rfl zq44 34 rfl Z34 zq15 ?_)
    replace O:=zz (And.intro E.out.le O.out)
    replace E:=zz (E.out.alloc Z34 34 (g:=wr8o4_.heap.size) rfl)
    refine ⟨⟨(E.out.box 5 rfl),(E.out.box 4 rfl),trivial⟩,(fun hHeld=> ?_)⟩
    refine zy (a':= ?_) zq7 ?_
    generalize (wr8o4_.alloc (.cells Z34.toArray 34))=wr8o8_ at E hHeld ⊢
    generalize wr8o4_.heap.size=gr8o8 at O E hHeld ⊢
    refine tre_l rfl (zL rfl zq44 34 _ _ rfl gr8o8 0 dr8o4__ [] Z34 [] rfl rfl (E.out.box 0 rfl) zq13 (rfl) (zq99 Ldr8o4__.out) (zq43 Ldr8o4__.out) Odr8o4__.out (fun Wr8o9_ hp hn=> ?_))
    replace E:=E.out.put2 0 hp hn zq19;clear hp hn
    (refine zha (v:= ?_) (a':= ?_) rfl rfl (Or.inl ⟨zq44,zq27⟩) zq7 ?_)
    refine zia ?_
    clear hHeld
    obtain ⟨t8_,ht⟩:∃t,t=(gr8o8+1):=⟨_,rfl⟩
    replace E:=zz (Env.atTop E.out ht)
    replace O:=zz (And.intro ht (And.intro E.out.le O.out));clear ht
   rotate_left
   focus
    replace O:=zz (And.intro E.out.le O.out)
    replace E:=zz (E.out.alloc Z34 34 (g:=wr8o3_.heap.size) rfl)
    refine ⟨⟨(E.out.box 4 rfl),(E.out.box 3 rfl),trivial⟩,(fun hHeld=> ?_)⟩
    refine zy (a':= ?_) zq7 ?_
    generalize (wr8o3_.alloc (.cells Z34.toArray 34))=wr8o8_ at E hHeld ⊢
    generalize wr8o3_.heap.size=gr8o8 at O E hHeld ⊢
    refine zwa rfl (zH rfl Try.func17 zq15 rfl #[.agg dr8o1__.toArray,.agg dr8o3__.toArray] zq44 rfl zq31 ?_)
    with_reducible refine (specPN_c k d0 d1 z0 z1 _ (E.out.mk_ 2 rfl) (E.out.mk_ 1 rfl) HSP.out).mono ?_
    rintro e wr8o4_ ⟨dr8o4__,rfl,Mdr8o4__,hb⟩
    have q:=E.out.made4 O.out 6 rfl Mdr8o4__ hb;clear O E Mdr8o4__ hb;obtain ⟨nr8o4___,mr8o4____,Ldr8o4__,Odr8o4__,O,E⟩:=q
    refine ⟨_,rfl,⟨(E.out.box 5 rfl),(E.out.box 4 rfl),trivial⟩,(fun hHeld=> ?_)⟩
    refine zy (a':= ?_) zq7 ?_
    iterate 3 (refine zha (v:= ?_) (a':= ?_) rfl rfl (Or.inl ⟨zq44,zq27⟩) zq7 ?_)
    refine tre_l rfl (zL rfl zq44 34 _ _ rfl gr8o8 0 dr8o4__ [] Z34 [] rfl rfl (E.out.box 1 rfl) zq13 (rfl) (zq99 Ldr8o4__.out) (zq43 Ldr8o4__.out) Odr8o4__.out (fun Wr8o9_ hp hn=> ?_))
    replace E:=E.out.put2 1 hp hn zq19;clear hp hn
    (refine zha (v:= ?_) (a':= ?_) rfl rfl (Or.inl ⟨zq44,zq27⟩) zq7 ?_)
    refine zia ?_
    clear hHeld
    obtain ⟨t8_,ht⟩:∃t,t=mr8o4____:=⟨_,rfl⟩
    replace E:=zz (Env.atTop E.out ht)
    replace O:=zz (And.intro ht (And.intro E.out.le O.out));clear ht
    have e:Env w _ _ [_,_,_,_,_,_]:=E.out.pick [(1,_),(0,_),(2,_),(3,_),(4,_),(5,_)] ⟨rfl,rfl,rfl,rfl,rfl,rfl,trivial⟩;clear E;have E:=zz e;clear e
  rotate_left 2
  focus
   replace O:=zz (And.intro E.out.le O.out)
   replace E:=zz (E.out.alloc Z34 34 (g:=wr8o1_.heap.size) rfl)
   refine ⟨⟨(E.out.box 3 rfl),(E.out.box 2 rfl),trivial⟩,(fun hHeld=> ?_)⟩
   refine zy (a':= ?_) zq7 ?_
   generalize (wr8o1_.alloc (.cells Z34.toArray 34))=wr8o8_ at E hHeld ⊢
   generalize wr8o1_.heap.size=gr8o8 at O E hHeld ⊢
   refine zwa rfl (zH rfl Try.func18 zq15 rfl #[.agg cs1.toArray] zq44 rfl zq31 ?_)
   with_reducible refine (zHa k a1 d1 _ (E.out.K KA1.out) HT1.out).mono ?_
   rintro e wr8o3_ ⟨dr8o3__,rfl,Mdr8o3__,hb⟩
   have q:=E.out.made4 O.out 4 rfl Mdr8o3__ hb;clear O E Mdr8o3__ hb;obtain ⟨nr8o3___,mr8o3____,Ldr8o3__,Odr8o3__,O,E⟩:=q
   refine ⟨_,rfl,⟨(E.out.box 4 rfl),(E.out.box 3 rfl),trivial⟩,(fun hHeld=> ?_)⟩
   refine zy (a':= ?_) zq7 ?_
   refine zwa rfl (zH rfl Try.func17 zq15 rfl #[.agg dr8o1__.toArray,.agg dr8o3__.toArray] zq44 rfl zq31 ?_)
   with_reducible refine (specPN_c k d0 d1 z0 z1 _ (E.out.mk_ 2 rfl) (E.out.mk_ 0 rfl) HSP.out).mono ?_
   rintro e wr8o4_ ⟨dr8o4__,rfl,Mdr8o4__,hb⟩
   have q:=E.out.made4 O.out 6 rfl Mdr8o4__ hb;clear O E Mdr8o4__ hb;obtain ⟨nr8o4___,mr8o4____,Ldr8o4__,Odr8o4__,O,E⟩:=q
   refine ⟨_,rfl,⟨(E.out.box 5 rfl),(E.out.box 4 rfl),trivial⟩,(fun hHeld=> ?_)⟩
   refine zy (a':= ?_) zq7 ?_
   iterate 3 (refine zha (v:= ?_) (a':= ?_) rfl rfl (Or.inl ⟨zq44,zq27⟩) zq7 ?_)
   refine tre_l rfl (zL rfl zq44 34 _ _ rfl gr8o8 0 dr8o4__ [] Z34 [] rfl rfl (E.out.box 2 rfl) zq13 (rfl) (zq99 Ldr8o4__.out) (zq43 Ldr8o4__.out) Odr8o4__.out (fun Wr8o9_ hp hn=> ?_))
   replace E:=E.out.put2 2 hp hn zq19;clear hp hn
   (refine zha (v:= ?_) (a':= ?_) rfl rfl (Or.inl ⟨zq44,zq27⟩) zq7 ?_)
   refine zia ?_
   clear hHeld
   obtain ⟨t8_,ht⟩:∃t,t=mr8o4____:=⟨_,rfl⟩
   replace E:=zz (Env.atTop E.out ht)
   replace O:=zz (And.intro ht (And.intro E.out.le O.out));clear ht
   have e:Env w _ _ [_,_,_,_,_,_]:=E.out.pick [(2,_),(0,_),(1,_),(3,_),(4,_),(5,_)] ⟨rfl,rfl,rfl,rfl,rfl,rfl,trivial⟩;clear E;have E:=zz e;clear e
 rotate_left 3
 focus
  replace O:=zz (And.intro E.out.le O.out)
  replace E:=zz (E.out.alloc Z34 34 (g:=w3_.heap.size) rfl)
  refine ⟨⟨(E.out.box 2 rfl),(E.out.box 1 rfl),trivial⟩,(fun hHeld=> ?_)⟩
  refine zy (a':= ?_) zq7 ?_
  generalize (w3_.alloc (.cells Z34.toArray 34))=wr8o8_ at E hHeld ⊢
  generalize w3_.heap.size=gr8o8 at O E hHeld ⊢
  refine zwa rfl (zH rfl Try.func11 zq15 rfl #[.agg cs0.toArray] zq44 rfl zq31 ?_)
  with_reducible refine (toWork_c k a0 d0 _ (E.out.K KA0.out) HT0.out).mono ?_
  rintro e wr8o1_ ⟨dr8o1__,rfl,Mdr8o1__,hb⟩
  have q:=E.out.made4 O.out 6 rfl Mdr8o1__ hb;clear O E Mdr8o1__ hb;obtain ⟨nr8o1___,mr8o1____,Ldr8o1__,Odr8o1__,O,E⟩:=q
  refine ⟨_,rfl,⟨(E.out.box 3 rfl),(E.out.box 2 rfl),trivial⟩,(fun hHeld=> ?_)⟩
  refine zy (a':= ?_) zq7 ?_
  refine zwa rfl (zH rfl Try.func18 zq15 rfl #[.agg cs1.toArray] zq44 rfl zq31 ?_)
  with_reducible refine (zHa k a1 d1 _ (E.out.K KA1.out) HT1.out).mono ?_
  rintro e wr8o3_ ⟨dr8o3__,rfl,Mdr8o3__,hb⟩
  have q:=E.out.made4 O.out 4 rfl Mdr8o3__ hb;clear O E Mdr8o3__ hb;obtain ⟨nr8o3___,mr8o3____,Ldr8o3__,Odr8o3__,O,E⟩:=q
  refine ⟨_,rfl,⟨(E.out.box 4 rfl),(E.out.box 3 rfl),trivial⟩,(fun hHeld=> ?_)⟩
  refine zy (a':= ?_) zq7 ?_
  refine zwa rfl (zH rfl Try.func17 zq15 rfl #[.agg dr8o1__.toArray,.agg dr8o3__.toArray] zq44 rfl zq31 ?_)
  with_reducible refine (specPN_c k d0 d1 z0 z1 _ (E.out.mk_ 1 rfl) (E.out.mk_ 0 rfl) HSP.out).mono ?_
  rintro e wr8o4_ ⟨dr8o4__,rfl,Mdr8o4__,hb⟩
  have q:=E.out.made4 O.out 6 rfl Mdr8o4__ hb;clear O E Mdr8o4__ hb;obtain ⟨nr8o4___,mr8o4____,Ldr8o4__,Odr8o4__,O,E⟩:=q
  refine ⟨_,rfl,⟨(E.out.box 5 rfl),(E.out.box 4 rfl),trivial⟩,(fun hHeld=> ?_)⟩
  refine zy (a':= ?_) zq7 ?_
  iterate 3 (refine zha (v:= ?_) (a':= ?_) rfl rfl (Or.inl ⟨zq44,zq27⟩) zq7 ?_)
  refine tre_l rfl (zL rfl zq44 34 _ _ rfl gr8o8 0 dr8o4__ [] Z34 [] rfl rfl (E.out.box 3 rfl) zq13 (rfl) (zq99 Ldr8o4__.out) (zq43 Ldr8o4__.out) Odr8o4__.out (fun Wr8o9_ hp hn=> ?_))
  replace E:=E.out.put2 3 hp hn zq19;clear hp hn
  (refine zha (v:= ?_) (a':= ?_) rfl rfl (Or.inl ⟨zq44,zq27⟩) zq7 ?_)
  refine zia ?_
  clear hHeld
  obtain ⟨t8_,ht⟩:∃t,t=mr8o4____:=⟨_,rfl⟩
  replace E:=zz (Env.atTop E.out ht)
  replace O:=zz (And.intro ht (And.intro E.out.le O.out));clear ht
  have e:Env w _ _ [_,_,_,_,_,_]:=E.out.pick [(3,_),(0,_),(1,_),(2,_),(4,_),(5,_)] ⟨rfl,rfl,rfl,rfl,rfl,rfl,trivial⟩;clear E;have E:=zz e;clear e
 all_goals
  go_wp2_with (first|((with_reducible refine zm (N:=35) rfl ?_);refine zt rfl 28 _ rfl w.heap.size 0 [] cs0 [] _ rfl (E.out.box 5 rfl) zq13 (rfl) Try.underlying28 rfl (zq43 LA0.out) ?_))
  ((with_reducible refine (toWork_c k a0 d0 _ (E.out.K KA0.out) HT0.out).mono ?_);rintro e w4_ ⟨d5_,rfl,Md5_,hb⟩)
  have q:=E.out.made4 O.out 6 rfl Md5_ hb;clear O E Md5_ hb;obtain ⟨n6_,m7_,Ld5_,Od5_,O,E⟩:=q
  go_wp2_with (first|((with_reducible refine zv (t:=34) (p:=8) rfl ?_);replace O:=zz (And.intro E.out.le O.out);replace E:=zz (E.out.alloc Z34 34 (g:=w4_.heap.size) rfl);refine zB rfl 34 _ _ rfl rfl w4_.heap.size 0 d5_ [] Z34 [] rfl rfl (E.out.box 0 rfl) zq13 (rfl) (zq99 Ld5_.out) (zq43 Ld5_.out) Od5_.out ?_;intro W8_ hp hn;replace E:=E.out.put2 0 hp hn zq19;clear hp hn)|((with_reducible refine zm (N:=37) rfl ?_);refine zt rfl 42 _ rfl (w.heap.size+1) 0 [] cs1 [] _ rfl (E.out.box 6 rfl) zq13 (rfl) Try.underlying42 rfl (zq43 LA1.out) ?_))
  ((with_reducible refine (zHa k a1 d1 _ (E.out.K KA1.out) HT1.out).mono ?_);rintro e w9_ ⟨d10_,rfl,Md10_,hb⟩)
  have q:=E.out.made4 O.out 4 rfl Md10_ hb;clear O E Md10_ hb;obtain ⟨n11_,m12_,Ld10_,Od10_,O,E⟩:=q
  go_wp2_with (first|((with_reducible refine zv (t:=45) (p:=9) rfl ?_);replace O:=zz (And.intro E.out.le O.out);replace E:=zz (E.out.alloc Z45 45 (g:=w9_.heap.size) rfl);refine zB rfl 45 _ _ rfl rfl w9_.heap.size 0 d10_ [] Z45 [] rfl rfl (E.out.box 0 rfl) zq13 (rfl) (zq99 Ld10_.out) (zq43 Ld10_.out) Od10_.out ?_;intro W13_ hp hn;replace E:=E.out.put2 0 hp hn zq19;clear hp hn)|((with_reducible refine zm (N:=40) rfl ?_);refine zt rfl 34 _ rfl w4_.heap.size 0 [] d5_ [] _ rfl (E.out.box 2 rfl) zq13 (rfl) Try.underlying34 rfl (zq43 Ld5_.out) ?_)|((with_reducible refine zm (N:=41) rfl ?_);refine zt rfl 45 _ rfl w9_.heap.size 0 [] d10_ [] _ rfl (E.out.box 0 rfl) zq13 (rfl) Try.underlying45 rfl (zq43 Ld10_.out) ?_))
  ((with_reducible refine (implPN_c k d0 d1 z0 z1 _ (E.out.mk_ 3 rfl) (E.out.mk_ 1 rfl) HIM.out).mono ?_);rintro e w14_ ⟨d15_,rfl,Md15_,hb⟩)
  have q:=E.out.made4 O.out 6 rfl Md15_ hb;clear O E Md15_ hb;obtain ⟨n16_,m17_,Ld15_,Od15_,O,E⟩:=q
  go_wp2_with (first|((with_reducible refine zv (t:=34) (p:=10) rfl ?_);replace O:=zz (And.intro E.out.le O.out);replace E:=zz (E.out.alloc Z34 34 (g:=w14_.heap.size) rfl);refine zB rfl 34 _ _ rfl rfl w14_.heap.size 0 d15_ [] Z34 [] rfl rfl (E.out.box 0 rfl) zq13 (rfl) (zq99 Ld15_.out) (zq43 Ld15_.out) Od15_.out ?_;intro W18_ hp hn;replace E:=E.out.put2 0 hp hn zq19;clear hp hn)|((with_reducible refine zm (N:=45) rfl ?_);refine zt rfl 34 _ rfl w14_.heap.size 0 [] d15_ [] _ rfl (E.out.box 0 rfl) zq13 (rfl) Try.underlying34 rfl (zq43 Ld15_.out) ?_)|((with_reducible refine zm (N:=46) rfl ?_);refine zt rfl 34 _ rfl gr8o8 0 [] dr8o4__ [] _ rfl (E.out.box 6 rfl) zq13 (rfl) Try.underlying34 rfl (zq43 Ldr8o4__.out) ?_))
  ((with_reducible refine (eqWork_c k z0 _ (E.out.mk_ 1 rfl) (E.out.mk_ 7 rfl) HEQ0.out).mono ?_);rintro e w19_ ⟨rfl,hb⟩)
  replace E:=zz (E.out.call hb);clear hb
  go_upto_region 14 with (fail)
  replace E:=zz E.out.drew
  refine zxa pn_great_ok14_1 (S:=fun w'=>w'.heap[w4_.heap.size]?=some (.cells (([]++(d5_++[])):List Value).toArray 34 (0,0))∧w'.heap[w.heap.size]?=some (.cells (cs0:List Value).toArray 28 (0,0))∧True) zq15 (fun _ _ _ _ h=>h) ⟨(E.out.box 4 rfl),(E.out.box 11 rfl),trivial⟩ (fun hHeld=> ?_)
  generalize hq:World.drew _=w20_ at hHeld ⊢;replace E:=E.out.to hq;clear hq
  refine zS (a':= ?_) rfl rfl zq44 34 _ rfl w4_.heap.size 0 [] d5_ [] _ rfl (fun w' hs=>hs.1) zq13 (rfl) Try.underlying34 rfl (zq43 Ld5_.out) zq7 ?_
  refine zS (a':= ?_) rfl rfl zq44 28 _ rfl w.heap.size 0 [] cs0 [] _ rfl (fun w' hs=>hs.2.1) zq13 (rfl) Try.underlying28 rfl (zq43 LA0.out) zq7 ?_
  refine zwa rfl (zH rfl Try.func11 zq15 rfl #[.agg cs0.toArray] zq44 rfl zq31 ?_)
  with_reducible refine (toWork_c k a0 d0 _ (E.out.K KA0.out) HT0.out).mono ?_
  rintro e wr14o2_ ⟨dr14o2__,rfl,Mdr14o2__,hb⟩
  have q:=E.out.made4 O.out 6 rfl Mdr14o2__ hb;clear O E Mdr14o2__ hb;obtain ⟨nr14o2___,mr14o2____,Ldr14o2__,Odr14o2__,O,E⟩:=q
  refine ⟨_,rfl,⟨(E.out.box 5 rfl),(E.out.box 12 rfl),trivial⟩,(fun hHeld=> ?_)⟩
  refine zy (a':= ?_) zq7 ?_
  refine zwa rfl (zH rfl Try.func13 zq15 rfl #[.agg d5_.toArray,.agg dr14o2__.toArray] zq44 rfl zq31 ?_)
  with_reducible refine (eqWork_c k d0 _ (E.out.mk_ 6 rfl) (E.out.mk_ 0 rfl) HEX0.out).mono ?_
  rintro e wr14o3_ ⟨rfl,hb⟩
  replace E:=zz (E.out.call hb);clear hb
  refine ⟨_,rfl,⟨(E.out.box 5 rfl),(E.out.box 12 rfl),trivial⟩,(fun hHeld=> ?_)⟩
  refine zy (a':= ?_) zq7 ?_
  (refine zha (v:= ?_) (a':= ?_) rfl rfl (Or.inl ⟨zq44,zq27⟩) zq7 ?_)
  refine zia ?_
  clear hHeld
  obtain ⟨t14_,ht⟩:∃t,t=mr14o2____:=⟨_,rfl⟩
  replace E:=zz (Env.atTop E.out ht)
  replace O:=zz (And.intro ht (And.intro E.out.le O.out));clear ht
  go_upto_region 16 with (fail)
  replace E:=zz E.out.drew
  refine zxa pn_great_ok16_2 (S:=fun w'=>w'.heap[w9_.heap.size]?=some (.cells (([]++(d10_++[])):List Value).toArray 45 (0,0))∧w'.heap[(w.heap.size+1)]?=some (.cells (cs1:List Value).toArray 42 (0,0))∧True) zq15 (fun _ _ _ _ h=>h) ⟨(E.out.box 3 rfl),(E.out.box 11 rfl),trivial⟩ (fun hHeld=> ?_)
  generalize hq:World.drew _=w21_ at hHeld ⊢;replace E:=E.out.to hq;clear hq
  refine zS (a':= ?_) rfl rfl zq44 45 _ rfl w9_.heap.size 0 [] d10_ [] _ rfl (fun w' hs=>hs.1) zq13 (rfl) Try.underlying45 rfl (zq43 Ld10_.out) zq7 ?_
  refine zS (a':= ?_) rfl rfl zq44 42 _ rfl (w.heap.size+1) 0 [] cs1 [] _ rfl (fun w' hs=>hs.2.1) zq13 (rfl) Try.underlying42 rfl (zq43 LA1.out) zq7 ?_
  refine zwa rfl (zH rfl Try.func18 zq15 rfl #[.agg cs1.toArray] zq44 rfl zq31 ?_)
  with_reducible refine (zHa k a1 d1 _ (E.out.K KA1.out) HT1.out).mono ?_
  rintro e wr16o2_ ⟨dr16o2__,rfl,Mdr16o2__,hb⟩
  have q:=E.out.made4 O.out 4 rfl Mdr16o2__ hb;clear O E Mdr16o2__ hb;obtain ⟨nr16o2___,mr16o2____,Ldr16o2__,Odr16o2__,O,E⟩:=q
  refine ⟨_,rfl,⟨(E.out.box 4 rfl),(E.out.box 12 rfl),trivial⟩,(fun hHeld=> ?_)⟩
  refine zy (a':= ?_) zq7 ?_
  refine zwa rfl (zH rfl Try.func20 zq15 rfl #[.agg d10_.toArray,.agg dr16o2__.toArray] zq44 rfl zq31 ?_)
  with_reducible refine (eqNode_c k d1 _ (E.out.mk_ 5 rfl) (E.out.mk_ 0 rfl) HEX1.out).mono ?_
  rintro e wr16o3_ ⟨rfl,hb⟩
  replace E:=zz (E.out.call hb);clear hb
  refine ⟨_,rfl,⟨(E.out.box 4 rfl),(E.out.box 12 rfl),trivial⟩,(fun hHeld=> ?_)⟩
  refine zy (a':= ?_) zq7 ?_
  (refine zha (v:= ?_) (a':= ?_) rfl rfl (Or.inl ⟨zq44,zq27⟩) zq7 ?_)
  refine zia ?_
  clear hHeld
  obtain ⟨t16_,ht⟩:∃t,t=mr16o2____:=⟨_,rfl⟩
  replace E:=zz (Env.atTop E.out ht)
  replace O:=zz (And.intro ht (And.intro E.out.le O.out));clear ht
  go_wp2_with (first|((with_reducible refine zm (N:=64) rfl ?_);refine zt rfl 34 _ rfl w4_.heap.size 0 [] d5_ [] _ rfl (E.out.box 6 rfl) zq13 (rfl) Try.underlying34 rfl (zq43 Ld5_.out) ?_))
  ((with_reducible refine (markWork_c k d0 1 d0_ mk0 _ w _ E.out.below (E.out.mbound 7 rfl) (E.out.made 7 rfl) HMK0.out).mono ?_);rintro e w22_ ⟨rfl,M,hB,hK⟩)
  replace E:=zz (E.out.marked 7 rfl M hB hK zq104);clear M hB hK
  go_wp2_with (first|((with_reducible refine zm (N:=67) rfl ?_);refine zt rfl 45 _ rfl w9_.heap.size 0 [] d10_ [] _ rfl (E.out.box 4 rfl) zq13 (rfl) Try.underlying45 rfl (zq43 Ld10_.out) ?_))
  ((with_reducible refine (markNode_c k d1 mk0 d1_ mk1 _ w _ E.out.below (E.out.mbound 5 rfl) (E.out.made 5 rfl) HMK1.out).mono ?_);rintro e w23_ ⟨rfl,M,hB,hK⟩)
  replace E:=zz (E.out.marked 5 rfl M hB hK zq104);clear M hB hK
  go_wp2_with (first|((with_reducible refine zm (N:=73) rfl ?_);refine ev_loadpart_w zq44 34 _ rfl w14_.heap.size 0 [] d15_ [] _ rfl (E.out.box 2 rfl) zq13 (rfl) Try.underlying34 rfl (zq43 Ld15_.out) ?_)|((with_reducible refine zm (N:=74) rfl ?_);refine ev_loadpart_w zq44 34 _ rfl gr8o8 0 [] dr8o4__ [] _ rfl (E.out.box 8 rfl) zq13 (rfl) Try.underlying34 rfl (zq43 Ldr8o4__.out) ?_))
  ((with_reducible refine (eqWork_c k z0 _ (E.out.mk_ 3 rfl) (E.out.mk_ 9 rfl) HEQ0.out).mono ?_);rintro e w24_ ⟨rfl,hb⟩)
  replace E:=zz (E.out.call hb);clear hb
  go_wp2_with (first|((with_reducible refine zm (N:=83) rfl ?_);refine zt rfl 34 _ rfl w14_.heap.size 0 [] d15_ [] _ rfl (E.out.box 2 rfl) zq13 (rfl) Try.underlying34 rfl (zq43 Ld15_.out) ?_))
  ((with_reducible refine (markWork_c k z0 1 z0_ mg0 _ w _ E.out.below (E.out.mbound 3 rfl) (E.out.made 3 rfl) HMG0.out).mono ?_);rintro e w25_ ⟨rfl,M,hB,hK⟩)
  replace E:=zz (E.out.marked 3 rfl M hB hK zq104);clear M hB hK
  go_wp2_with (first|((with_reducible refine zm (N:=86) rfl ?_);refine zt rfl 34 _ rfl w14_.heap.size 0 [] d15_ [] _ rfl (E.out.box 2 rfl) zq13 (rfl) Try.underlying34 rfl (zq43 Ld15_.out) ?_))
  ((with_reducible refine (heldWork_c k z0_ 1 mg0 _ (E.out.mk_ 3 rfl) HHD0.out).mono ?_);rintro e w26_ ⟨rfl,hb⟩)
  replace E:=zz (E.out.call hb);clear hb
  go_upto_region 31 with (fail)
  replace E:=zz E.out.drew
  refine zxa pn_great_ok31_3 (S:=fun w'=>w'.heap[w.heap.size]?=some (.cells (cs0:List Value).toArray 28 (0,0))∧w'.heap[(w.heap.size+1)]?=some (.cells (cs1:List Value).toArray 42 (0,0))∧True) zq15 (fun _ _ _ _ h=>h) ⟨(E.out.box 13 rfl),(E.out.box 12 rfl),trivial⟩ (fun hHeld=> ?_)
  generalize hq:World.drew _=w27_ at hHeld ⊢;replace E:=E.out.to hq;clear hq
  refine zS (a':= ?_) rfl rfl zq44 28 _ rfl w.heap.size 0 [] cs0 [] _ rfl (fun w' hs=>hs.1) zq13 (rfl) Try.underlying28 rfl (zq43 LA0.out) zq7 ?_
  refine zS (a':= ?_) rfl rfl zq44 42 _ rfl (w.heap.size+1) 0 [] cs1 [] _ rfl (fun w' hs=>hs.2.1) zq13 (rfl) Try.underlying42 rfl (zq43 LA1.out) zq7 ?_
  refine zcb rfl rfl (zH rfl Try.func11 zq15 rfl #[.agg cs0.toArray] zq44 rfl zq31 ?_) (zya rfl zq44 34 rfl Z34 zq15 ?_)
  focus
   with_reducible refine (toWork_c k a0 d0 _ (E.out.K KA0.out) HT0.out).mono ?_
   rintro e wr31o1_ ⟨dr31o1__,rfl,Mdr31o1__,hb⟩
   have q:=E.out.made4 O.out 6 rfl Mdr31o1__ hb;clear O E Mdr31o1__ hb;obtain ⟨nr31o1___,mr31o1____,Ldr31o1__,Odr31o1__,O,E⟩:=q
   refine ⟨_,rfl,⟨(E.out.box 14 rfl),(E.out.box 13 rfl),trivial⟩,(fun hHeld=> ?_)⟩
   refine zy (a':= ?_) zq7 ?_
   refine zcb rfl rfl (zH rfl Try.func18 zq15 rfl #[.agg cs1.toArray] zq44 rfl zq31 ?_) (zya rfl zq44 34 rfl Z34 zq15 ?_)
   focus
    with_reducible refine (zHa k a1 d1 _ (E.out.K KA1.out) HT1.out).mono ?_
    rintro e wr31o3_ ⟨dr31o3__,rfl,Mdr31o3__,hb⟩
    have q:=E.out.made4 O.out 4 rfl Mdr31o3__ hb;clear O E Mdr31o3__ hb;obtain ⟨nr31o3___,mr31o3____,Ldr31o3__,Odr31o3__,O,E⟩:=q
    refine ⟨_,rfl,⟨(E.out.box 15 rfl),(E.out.box 14 rfl),trivial⟩,(fun hHeld=> ?_)⟩
    refine zy (a':= ?_) zq7 ?_
    refine zcb rfl rfl (zH rfl Try.func19 zq15 rfl #[.agg dr31o1__.toArray,.agg dr31o3__.toArray] zq44 rfl zq31 ?_) (zya rfl zq44 34 rfl Z34 zq15 ?_)
    focus
     with_reducible refine (implPN_c k d0 d1 z0 z1 _ (E.out.mk_ 1 rfl) (E.out.mk_ 0 rfl) HIM.out).mono ?_
     rintro e wr31o4_ ⟨dr31o4__,rfl,Mdr31o4__,hb⟩
     have q:=E.out.made4 O.out 6 rfl Mdr31o4__ hb;clear O E Mdr31o4__ hb;obtain ⟨nr31o4___,mr31o4____,Ldr31o4__,Odr31o4__,O,E⟩:=q
     refine ⟨_,rfl,⟨(E.out.box 16 rfl),(E.out.box 15 rfl),trivial⟩,(fun hHeld=> ?_)⟩
     refine zy (a':= ?_) zq7 ?_
     iterate 3 (refine zha (v:= ?_) (a':= ?_) rfl rfl (Or.inl ⟨zq44,zq27⟩) zq7 ?_)
     refine zwa rfl (zya rfl zq44 34 rfl Z34 zq15 ?_)
     replace O:=zz (And.intro E.out.le O.out)
     replace E:=zz (E.out.alloc Z34 34 (g:=wr31o4_.heap.size) rfl)
     refine ⟨⟨(E.out.box 17 rfl),(E.out.box 16 rfl),trivial⟩,(fun hHeld=> ?_)⟩
     refine zy (a':= ?_) zq7 ?_
     generalize (wr31o4_.alloc (.cells Z34.toArray 34))=wr31o8_ at E hHeld ⊢
     generalize wr31o4_.heap.size=gr31o8 at O E hHeld ⊢
     refine tre_l rfl (zL rfl zq44 34 _ _ rfl gr31o8 0 dr31o4__ [] Z34 [] rfl rfl (E.out.box 0 rfl) zq13 (rfl) (zq99 Ldr31o4__.out) (zq43 Ldr31o4__.out) Odr31o4__.out (fun Wr31o9_ hp hn=> ?_))
     replace E:=E.out.put2 0 hp hn zq19;clear hp hn
     (refine zha (v:= ?_) (a':= ?_) rfl rfl (Or.inl ⟨zq44,zq27⟩) zq7 ?_)
     refine zia ?_
     clear hHeld
     obtain ⟨t31_,ht⟩:∃t,t=(gr31o8+1):=⟨_,rfl⟩
     replace E:=zz (Env.atTop E.out ht)
     replace O:=zz (And.intro ht (And.intro E.out.le O.out));clear ht
    rotate_left
    focus
     replace O:=zz (And.intro E.out.le O.out)
     replace E:=zz (E.out.alloc Z34 34 (g:=wr31o3_.heap.size) rfl)
     refine ⟨⟨(E.out.box 16 rfl),(E.out.box 15 rfl),trivial⟩,(fun hHeld=> ?_)⟩
     refine zy (a':= ?_) zq7 ?_
     generalize (wr31o3_.alloc (.cells Z34.toArray 34))=wr31o8_ at E hHeld ⊢
     generalize wr31o3_.heap.size=gr31o8 at O E hHeld ⊢
     refine zwa rfl (zH rfl Try.func19 zq15 rfl #[.agg dr31o1__.toArray,.agg dr31o3__.toArray] zq44 rfl zq31 ?_)
     with_reducible refine (implPN_c k d0 d1 z0 z1 _ (E.out.mk_ 2 rfl) (E.out.mk_ 1 rfl) HIM.out).mono ?_
     rintro e wr31o4_ ⟨dr31o4__,rfl,Mdr31o4__,hb⟩
     have q:=E.out.made4 O.out 6 rfl Mdr31o4__ hb;clear O E Mdr31o4__ hb;obtain ⟨nr31o4___,mr31o4____,Ldr31o4__,Odr31o4__,O,E⟩:=q
     refine ⟨_,rfl,⟨(E.out.box 17 rfl),(E.out.box 16 rfl),trivial⟩,(fun hHeld=> ?_)⟩
     refine zy (a':= ?_) zq7 ?_
     iterate 3 (refine zha (v:= ?_) (a':= ?_) rfl rfl (Or.inl ⟨zq44,zq27⟩) zq7 ?_)
     refine tre_l rfl (zL rfl zq44 34 _ _ rfl gr31o8 0 dr31o4__ [] Z34 [] rfl rfl (E.out.box 1 rfl) zq13 (rfl) (zq99 Ldr31o4__.out) (zq43 Ldr31o4__.out) Odr31o4__.out (fun Wr31o9_ hp hn=> ?_))
     replace E:=E.out.put2 1 hp hn zq19;clear hp hn
     (refine zha (v:= ?_) (a':= ?_) rfl rfl (Or.inl ⟨zq44,zq27⟩) zq7 ?_)
     refine zia ?_
     clear hHeld
     obtain ⟨t31_,ht⟩:∃t,t=mr31o4____:=⟨_,rfl⟩
     replace E:=zz (Env.atTop E.out ht)
     replace O:=zz (And.intro ht (And.intro E.out.le O.out));clear ht
     have e:Env w _ _ [_,_,_,_,_,_,_,_,_,_,_,_,_,_,_,_,_,_]:=E.out.pick [(1,_),(0,_),(2,_),(3,_),(4,_),(5,_),(6,_),(7,_),(8,_),(9,_),(10,_),(11,_),(12,_),(13,_),(14,_),(15,_),(16,_),(17,_)] ⟨rfl,rfl,rfl,rfl,rfl,rfl,rfl,rfl,rfl,rfl,rfl,rfl,rfl,rfl,rfl,rfl,rfl,rfl,trivial⟩;clear E;have E:=zz e;clear e
   rotate_left 2
   focus
    replace O:=zz (And.intro E.out.le O.out)
    replace E:=zz (E.out.alloc Z34 34 (g:=wr31o1_.heap.size) rfl)
    refine ⟨⟨(E.out.box 15 rfl),(E.out.box 14 rfl),trivial⟩,(fun hHeld=> ?_)⟩
    refine zy (a':= ?_) zq7 ?_
    generalize (wr31o1_.alloc (.cells Z34.toArray 34))=wr31o8_ at E hHeld ⊢
    generalize wr31o1_.heap.size=gr31o8 at O E hHeld ⊢
    refine zwa rfl (zH rfl Try.func18 zq15 rfl #[.agg cs1.toArray] zq44 rfl zq31 ?_)
    with_reducible refine (zHa k a1 d1 _ (E.out.K KA1.out) HT1.out).mono ?_
    rintro e wr31o3_ ⟨dr31o3__,rfl,Mdr31o3__,hb⟩
    have q:=E.out.made4 O.out 4 rfl Mdr31o3__ hb;clear O E Mdr31o3__ hb;obtain ⟨nr31o3___,mr31o3____,Ldr31o3__,Odr31o3__,O,E⟩:=q
    refine ⟨_,rfl,⟨(E.out.box 16 rfl),(E.out.box 15 rfl),trivial⟩,(fun hHeld=> ?_)⟩
    refine zy (a':= ?_) zq7 ?_
    refine zwa rfl (zH rfl Try.func19 zq15 rfl #[.agg dr31o1__.toArray,.agg dr31o3__.toArray] zq44 rfl zq31 ?_)
    with_reducible refine (implPN_c k d0 d1 z0 z1 _ (E.out.mk_ 2 rfl) (E.out.mk_ 0 rfl) HIM.out).mono ?_
    rintro e wr31o4_ ⟨dr31o4__,rfl,Mdr31o4__,hb⟩
    have q:=E.out.made4 O.out 6 rfl Mdr31o4__ hb;clear O E Mdr31o4__ hb;obtain ⟨nr31o4___,mr31o4____,Ldr31o4__,Odr31o4__,O,E⟩:=q
    refine ⟨_,rfl,⟨(E.out.box 17 rfl),(E.out.box 16 rfl),trivial⟩,(fun hHeld=> ?_)⟩
    refine zy (a':= ?_) zq7 ?_
    iterate 3 (refine zha (v:= ?_) (a':= ?_) rfl rfl (Or.inl ⟨zq44,zq27⟩) zq7 ?_)
    refine tre_l rfl (zL rfl zq44 34 _ _ rfl gr31o8 0 dr31o4__ [] Z34 [] rfl rfl (E.out.box 2 rfl) zq13 (rfl) (zq99 Ldr31o4__.out) (zq43 Ldr31o4__.out) Odr31o4__.out (fun Wr31o9_ hp hn=> ?_))
    replace E:=E.out.put2 2 hp hn zq19;clear hp hn
    (refine zha (v:= ?_) (a':= ?_) rfl rfl (Or.inl ⟨zq44,zq27⟩) zq7 ?_)
    refine zia ?_
    clear hHeld
    obtain ⟨t31_,ht⟩:∃t,t=mr31o4____:=⟨_,rfl⟩
    replace E:=zz (Env.atTop E.out ht)
    replace O:=zz (And.intro ht (And.intro E.out.le O.out));clear ht
    have e:Env w _ _ [_,_,_,_,_,_,_,_,_,_,_,_,_,_,_,_,_,_]:=E.out.pick [(2,_),(0,_),(1,_),(3,_),(4,_),(5,_),(6,_),(7,_),(8,_),(9,_),(10,_),(11,_),(12,_),(13,_),(14,_),(15,_),(16,_),(17,_)] ⟨rfl,rfl,rfl,rfl,rfl,rfl,rfl,rfl,rfl,rfl,rfl,rfl,rfl,rfl,rfl,rfl,rfl,rfl,trivial⟩;clear E;have E:=zz e;clear e
  rotate_left 3
  focus
   replace O:=zz (And.intro E.out.le O.out)
   replace E:=zz (E.out.alloc Z34 34 (g:=w27_.heap.size) rfl)
   refine ⟨⟨(E.out.box 14 rfl),(E.out.box 13 rfl),trivial⟩,(fun hHeld=> ?_)⟩
   refine zy (a':= ?_) zq7 ?_
   generalize (w27_.alloc (.cells Z34.toArray 34))=wr31o8_ at E hHeld ⊢
   generalize w27_.heap.size=gr31o8 at O E hHeld ⊢
   refine zwa rfl (zH rfl Try.func11 zq15 rfl #[.agg cs0.toArray] zq44 rfl zq31 ?_)
   with_reducible refine (toWork_c k a0 d0 _ (E.out.K KA0.out) HT0.out).mono ?_
   rintro e wr31o1_ ⟨dr31o1__,rfl,Mdr31o1__,hb⟩
   have q:=E.out.made4 O.out 6 rfl Mdr31o1__ hb;clear O E Mdr31o1__ hb;obtain ⟨nr31o1___,mr31o1____,Ldr31o1__,Odr31o1__,O,E⟩:=q
   refine ⟨_,rfl,⟨(E.out.box 15 rfl),(E.out.box 14 rfl),trivial⟩,(fun hHeld=> ?_)⟩
   refine zy (a':= ?_) zq7 ?_
   refine zwa rfl (zH rfl Try.func18 zq15 rfl #[.agg cs1.toArray] zq44 rfl zq31 ?_)
   with_reducible refine (zHa k a1 d1 _ (E.out.K KA1.out) HT1.out).mono ?_
   rintro e wr31o3_ ⟨dr31o3__,rfl,Mdr31o3__,hb⟩
   have q:=E.out.made4 O.out 4 rfl Mdr31o3__ hb;clear O E Mdr31o3__ hb;obtain ⟨nr31o3___,mr31o3____,Ldr31o3__,Odr31o3__,O,E⟩:=q
   refine ⟨_,rfl,⟨(E.out.box 16 rfl),(E.out.box 15 rfl),trivial⟩,(fun hHeld=> ?_)⟩
   refine zy (a':= ?_) zq7 ?_
   refine zwa rfl (zH rfl Try.func19 zq15 rfl #[.agg dr31o1__.toArray,.agg dr31o3__.toArray] zq44 rfl zq31 ?_)
   with_reducible refine (implPN_c k d0 d1 z0 z1 _ (E.out.mk_ 1 rfl) (E.out.mk_ 0 rfl) HIM.out).mono ?_
   rintro e wr31o4_ ⟨dr31o4__,rfl,Mdr31o4__,hb⟩
   have q:=E.out.made4 O.out 6 rfl Mdr31o4__ hb;clear O E Mdr31o4__ hb;obtain ⟨nr31o4___,mr31o4____,Ldr31o4__,Odr31o4__,O,E⟩:=q
   refine ⟨_,rfl,⟨(E.out.box 17 rfl),(E.out.box 16 rfl),trivial⟩,(fun hHeld=> ?_)⟩
   refine zy (a':= ?_) zq7 ?_
   iterate 3 (refine zha (v:= ?_) (a':= ?_) rfl rfl (Or.inl ⟨zq44,zq27⟩) zq7 ?_)
   refine tre_l rfl (zL rfl zq44 34 _ _ rfl gr31o8 0 dr31o4__ [] Z34 [] rfl rfl (E.out.box 3 rfl) zq13 (rfl) (zq99 Ldr31o4__.out) (zq43 Ldr31o4__.out) Odr31o4__.out (fun Wr31o9_ hp hn=> ?_))
   replace E:=E.out.put2 3 hp hn zq19;clear hp hn
   (refine zha (v:= ?_) (a':= ?_) rfl rfl (Or.inl ⟨zq44,zq27⟩) zq7 ?_)
   refine zia ?_
   clear hHeld
   obtain ⟨t31_,ht⟩:∃t,t=mr31o4____:=⟨_,rfl⟩
   replace E:=zz (Env.atTop E.out ht)
   replace O:=zz (And.intro ht (And.intro E.out.le O.out));clear ht
   have e:Env w _ _ [_,_,_,_,_,_,_,_,_,_,_,_,_,_,_,_,_,_]:=E.out.pick [(3,_),(0,_),(1,_),(2,_),(4,_),(5,_),(6,_),(7,_),(8,_),(9,_),(10,_),(11,_),(12,_),(13,_),(14,_),(15,_),(16,_),(17,_)] ⟨rfl,rfl,rfl,rfl,rfl,rfl,rfl,rfl,rfl,rfl,rfl,rfl,rfl,rfl,rfl,rfl,rfl,rfl,trivial⟩;clear E;have E:=zz e;clear e
  all_goals
   go_wp2_with (first|((with_reducible refine zm (N:=102) rfl ?_);refine zt rfl 34 _ rfl gr31o8 0 [] dr31o4__ [] _ rfl (E.out.box 0 rfl) zq13 (rfl) Try.underlying34 rfl (zq43 Ldr31o4__.out) ?_)|((with_reducible refine zm (N:=103) rfl ?_);refine zt rfl 34 _ rfl gr8o8 0 [] dr8o4__ [] _ rfl (E.out.box 12 rfl) zq13 (rfl) Try.underlying34 rfl (zq43 Ldr8o4__.out) ?_))
   ((with_reducible refine (eqWork_c k z0 _ (E.out.mk_ 1 rfl) (E.out.mk_ 13 rfl) HEQ0.out).mono ?_);rintro e w28_ ⟨rfl,hb⟩)
   replace E:=zz (E.out.call hb);clear hb
   go_wp2_with (first|((with_reducible refine zm (N:=111) rfl ?_);refine zt rfl 34 _ rfl w14_.heap.size 0 [] d15_ [] _ rfl (E.out.box 6 rfl) zq13 (rfl) Try.underlying34 rfl (zq43 Ld15_.out) ?_))
   ((with_reducible refine (heldWork_c k z0_ 1 mg0 _ (E.out.mk_ 7 rfl) HHD0.out).mono ?_);rintro e w29_ ⟨rfl,hb⟩)
   replace E:=zz (E.out.call hb);clear hb
   go_wp2_with fail
   go_ret
   exact ⟨rfl,E.out.below⟩
theorem wS {i:Nat} (h:i<1000000):wrap64 ((i:Int)+1)=((i+1:Nat):Int):=zq129
theorem long_iff (l:List ByteArray):longB l=false↔∀j,j<l.length→(l.getD j ByteArray.empty).size≤24:=by
 unfold longB
 rw [List.any_eq_false]
 constructor
 ·intro h j hj
  have:=h l[j] (List.getElem_mem hj)
  simp only [decide_eq_true_eq] at this
  rw [List.getD_eq_getElem?_getD,List.getElem?_eq_getElem hj]
  simp only [Option.getD_some]
  omega
 ·intro h x hx
  obtain ⟨j,hj,rfl⟩:=List.getElem_of_mem hx
  have:=h j hj
  rw [List.getD_eq_getElem?_getD,List.getElem?_eq_getElem hj] at this
  simp only [Option.getD_some] at this
  simp only [decide_eq_true_eq]
  omega
theorem asc_iff (l:List ByteArray):Asc l↔∀j,j<l.length→0<j→lessB (l.getD (j-1) ByteArray.empty) (l.getD j ByteArray.empty)=true:=by
 have hg:∀j (h:j<l.length),l.getD j ByteArray.empty=l[j]:=fun j h=>by rw [List.getD_eq_getElem?_getD,List.getElem?_eq_getElem h];rfl
 constructor
 ·intro h j hj h0
  obtain ⟨m,rfl⟩:∃m,j=m+1:=⟨j-1,zq11⟩
  rw [hg _ hj,Nat.add_sub_cancel,hg m zq11]
  exact h m hj
 ·intro h j hj
  have:=h (j+1) hj zq11
  rw [hg _ hj,Nat.add_sub_cancel,hg j zq11] at this
  exact this
theorem nodeOk_iff (leaf:Bool) (keys vals:List ByteArray) (kids:List Int):nodeOkB leaf keys vals kids=true↔zSa leaf keys vals kids∧∀j,j<keys.length→NCond leaf keys vals kids j:=by
 unfold nodeOkB zSa NCond
 have hg:∀j (h:j<kids.length),kids.getD j 0=kids[j]:=fun j h=>by rw [List.getD_eq_getElem?_getD,List.getElem?_eq_getElem h];rfl
 rw [Bool.and_eq_true,Bool.and_eq_true,Bool.and_eq_true,decide_eq_true_eq,ascB_iff,asc_iff,Bool.not_eq_true',long_iff]
 cases leaf with
 |true=>
  rw [if_pos rfl,Bool.and_eq_true,Bool.and_eq_true,decide_eq_true_eq,decide_eq_true_eq,Bool.not_eq_true',long_iff]
  constructor
  ·rintro ⟨⟨⟨h1,h2⟩,h3⟩,⟨h4,h5⟩,h6⟩
   exact ⟨⟨h1,fun _=>⟨h4,h6⟩,(fun q=>by cases q)⟩,fun j hj=>⟨h3 j hj,h2 j hj,fun _=>h5 j zq11,(fun q=>by cases q)⟩⟩
  ·rintro ⟨⟨h1,h2,_⟩,h3⟩
   have h4:=h2 rfl
   exact ⟨⟨⟨h1,fun j hj=>(h3 j hj).2.1⟩,fun j hj=>(h3 j hj).1⟩,⟨h4.1,fun j hj=>(h3 j zq11).2.2.1 rfl⟩,h4.2⟩
 |false=>
  rw [if_neg zq52,branchB_iff]
  unfold BranchOk
  have hcon:∀j (h:j<kids.length),((kids.take j).contains kids[j]=false↔∀q,q<j→kids.getD q 0≠kids.getD j 0):=by
   intro j h
   rw [hg j h,Bool.eq_false_iff,Ne,List.contains_iff_mem]
   constructor
   ·intro hm q hq he
    apply hm
    rw [hg q zq11] at he
    rw [←he]
    exact List.mem_take_iff_getElem.2 ⟨q,zq11,rfl⟩
   ·intro hm hmem
    obtain ⟨q,hq,he⟩:=List.mem_take_iff_getElem.1 hmem
    have:=hm q zq11
    rw [hg q zq11] at this
    exact this he
  constructor
  ·rintro ⟨⟨⟨h1,h2⟩,h3⟩,h4,h5,h6⟩
   refine ⟨⟨h1,(fun q=>by cases q),fun _=>⟨h4,h5⟩⟩,fun j hj=>⟨h3 j hj,h2 j hj,(fun q=>by cases q),fun _=> ?_⟩⟩
   have:=h6 j zq11
   rw [hcon j zq11] at this
   rw [hg j zq11] at this ⊢
   exact this
  ·rintro ⟨⟨h1,_,h2⟩,h3⟩
   have h4:=h2 rfl
   refine ⟨⟨⟨h1,fun j hj=>(h3 j hj).2.1⟩,fun j hj=>(h3 j hj).1⟩,h4.1,h4.2,fun j hj=> ?_⟩
   have:=(h3 j zq11).2.2.2 rfl
   rw [hcon j hj]
   rw [hg j hj] at this ⊢
   exact this
theorem spec_NodeOk_ev (leaf:Bool) (keys vals:List ByteArray) (kids:List Int):Ev (fun k=>spec_NodeOk.f k leaf keys vals kids) (nodeOkB leaf keys vals kids):=by
 have h:specB leaf keys vals kids=nodeOkB leaf keys vals kids:=by rw [Bool.eq_iff_iff,specB_iff,nodeOk_iff]
 rw [←h]
 exact Ev.now _
theorem l08_id (l0:List ByteArray) (l1:List S135) (l2:Int) (l3 l4 l5:List Int) (h0:l0.length≤2000000) (h1:l1.length≤2000000) (h3:l3.length≤2000000) (h4:l4.length≤2000000) (h5:l5.length≤2000000):spec_l08Copy.f l0 l1 l2 l3 l4 l5=some (l0,l1,l2,l3,l4,l5):=by
 unfold spec_l08Copy.f
 rw [if_pos ⟨⟨h0,h1⟩,h3,h4,h5⟩]
theorem clone_id (l0:List ByteArray) (l1:List S135) (l2:Int) (l3 l4 l5:List Int) (h0:l0.length≤2000000) (h1:l1.length≤2000000) (h3:l3.length≤2000000) (h4:l4.length≤2000000) (h5:l5.length≤2000000):impl_cloneWork.f l0 l1 l2 l3 l4 l5=some (l0,l1,l2,l3,l4,l5):=by
 unfold impl_cloneWork.f impl_cloneDisk.f slices_Clone_string_string.f impl_Put.f
 unfold slices_Clone_int_int.f
 rw [if_pos zq11,if_pos zq11,if_pos zq11,if_pos zq11,if_pos zq11]
 rfl
theorem give_both (l0:List ByteArray) (l1:List S135) (l2:Int) (l3 l4 l5:List Int) (h0:l0.length≤1048576) (h1:l1.length≤1048576) (h3:l3.length≤1048576) (h4:l4.length≤1048576) (h5:l5.length≤1048576):
  ∃y0 y1 y2 y3 y4 y5 p,spec_GivePage.f l0 l1 l2 l3 l4 l5=some (y0,y1,y2,y3,y4,y5,p)∧impl_GivePage.f l0 l1 l2 l3 l4 l5=some (y0,y1,y2,y3,y4,y5,p)∧y0.length≤2000000∧y1.length≤2000000∧y3.length≤2000000∧y4.length≤2000000∧y5.length≤2000000:=by
 unfold spec_GivePage.f impl_GivePage.f
 rw [l08_id l0 l1 l2 l3 l4 l5 zq11 zq11 zq11 zq11 zq11,clone_id l0 l1 l2 l3 l4 l5 zq11 zq11 zq11 zq11 zq11]
 simp only [Option.bind_some]
 by_cases hu:(l3.length:Int)>0
 ·have hd:(l3.drop 1).length≤1048576:=by rw [List.length_drop];omega
  rw [if_pos hu,if_pos hu,if_pos zq11,if_pos (by simp only [List.length_nil];omega),if_pos zq11,if_pos zq11,if_pos zq11,if_pos zq11,if_pos zq11,List.nil_append]
  refine ⟨_,_,_,_,_,_,_,rfl,rfl,zq11,zq11,zq11,zq11,?_⟩
  rw [List.length_append]
  simp only [List.length_singleton]
  omega
 ·rw [if_neg hu,if_neg hu]
  by_cases hn:l2≥(l0.length:Int)
  ·rw [if_pos hn]
   exact ⟨_,_,_,_,_,_,_,rfl,rfl,zq11,zq11,zq11,zq11,zq11⟩
  ·rw [if_neg hn,if_pos zq11]
   refine ⟨_,_,_,_,_,_,_,rfl,rfl,zq11,zq11,zq11,zq11,?_⟩
   rw [List.length_append]
   simp only [List.length_singleton]
   omega
theorem vS_ev (n:Int) (h0:0≤n) (h1:n≤100000):Ev (fun k=>spec_l01Var.f k n) (vtN n):=txF.imp (fun k T=>T.vS n h0 h1)
theorem vI_ev (n:Int) (h0:0≤n) (h1:n≤100000):Ev (fun k=>impl_varText.f k n) (vtN n):=txF.imp (fun k T=>T.vI n h0 h1)
theorem vz_N (n:Int):(vtN n).size≤8:=by
 obtain ⟨K,h⟩:=txF
 exact (h K (Nat.le_refl _)).vz n
theorem sz_N (s:ByteArray):(sealN s).size=4:=by
 obtain ⟨K,h⟩:=txF
 exact (h K (Nat.le_refl _)).sz s
def shN (s:ByteArray):ByteArray:=vtN (s.size:Int)++s
theorem shN_size (s:ByteArray) (h:s.size≤24):(shN s).size≤32:=by
 have:=vz_N (s.size:Int)
 unfold shN
 rw [ByteArray.size_append]
 omega
theorem shS_ev (s:ByteArray) (h:s.size≤24):Ev (fun k=>spec_l04Short.f k s) (shN s):=by
 have:=vz_N (s.size:Int)
 refine Ev.bind (vS_ev (s.size:Int) zq11 zq11) ?_
 simp only [if_pos (show (vtN (s.size:Int)).size+s.size≤9223372036854775807 by omega)]
 exact Ev.now _
theorem shI_ev (s:ByteArray) (h:s.size≤24):Ev (fun k=>impl_shortOf.f k s) (shN s):=by
 have:=vz_N (s.size:Int)
 refine Ev.bind (vI_ev (s.size:Int) zq11 zq11) ?_
 simp only [if_pos (show (vtN (s.size:Int)).size+s.size≤9223372036854775807 by omega)]
 exact Ev.now _
theorem sealS_ev (s:ByteArray) (h:s.size≤20000):Ev (fun k=>spec_Sealed.f k s) (s++sealN s,true):=txF.imp (fun k T=>T.sS s h)
theorem sealI_ev (s:ByteArray) (h:s.size≤20000):Ev (fun k=>impl_Sealed.f k s) (s++sealN s,true):=by
 have h4:=sz_N s
 unfold impl_Sealed.f
 simp only [if_neg (show ¬(s.size:Int)>20000 by omega)]
 refine Ev.bind (txF.imp (fun k T=>T.sI s h)) ?_
 simp only [if_pos (show s.size+(sealN s).size≤9223372036854775807 by omega)]
 exact Ev.now _
theorem nt_go (leaf:Bool) (keys vals:List ByteArray) (kids:List Int) (hl:keys.length≤4) (hk:∀s∈keys,s.size≤24) (hv:leaf=true→vals.length=keys.length∧∀s∈vals,s.size≤24) (hd:leaf=false→kids.length=keys.length∧∀x∈kids,2≤x∧x≤39):
  ∀(n i:Nat) (x:ByteArray),i+n=keys.length→x.size+n*70≤1000→∃y:ByteArray,Ev (fun k=>spec_l05Bytes.l0 k x (i:Int) leaf keys vals kids) y∧Ev (fun k=>impl_NodeText.l0 k x keys (keys.length:Int) (i:Int) leaf keys vals kids) (y++sealN y,true)∧y.size≤1000:=by
 intro n
 induction n with
 |zero=>
  intro i x hi hx
  refine ⟨x,Ev.step (f:=fun _=>some x) (fun k=> ?_) (Ev.now _),Ev.step (f:=fun k=>(impl_Sealed.f k x).bind fun b=>some (b.1,b.2)) (fun k=> ?_) (Ev.bind (sealI_ev x zq11) (Ev.now _)),zq11⟩
  ·rw [spec_l05Bytes.l0,if_neg zq11]
  ·rw [impl_NodeText.l0,if_neg zq11]
 |succ n ih=>
  intro i x hi hx
  have hlt:i<keys.length:=zq11
  have hki:=hk _ (List.getElem_mem hlt)
  have k1:=shN_size _ hki
  have w2:wrap64 ((i:Int)+1)=((i+1:Nat):Int):=by rw [zG zq11 zq11];omega
  cases leaf with
  |true=>
   obtain ⟨v1,v2⟩:=hv rfl
   have hlv:i<vals.length:=zq11
   have hvi:=v2 _ (List.getElem_mem hlv)
   have k2:=shN_size _ hvi
   have z2:(x++shN keys[i]).size=x.size+(shN keys[i]).size:=ByteArray.size_append
   obtain ⟨y,a1,a2,a3⟩:=ih (i+1) ((x++shN keys[i])++shN vals[i]) zq11 (by rw [ByteArray.size_append,z2];omega)
   refine ⟨y,Ev.step (f:=fun k=>(spec_l04Short.f k keys[i]).bind fun t250=>(if x.size+t250.size≤9223372036854775807 then (if true=true then (if (i:Int)<(vals.length:Int) then ((spec_l04Short.f k vals[i]).bind fun t252=>(if (x++t250).size+t252.size≤9223372036854775807 then (spec_l05Bytes.l0 k ((x++t250)++t252) ((i+1:Nat):Int) true keys vals kids) else (none))) else (none)) else (if (i:Int)<(kids.length:Int) then ((spec_l01Var.f k (rd kids (i:Int))).bind fun t254=>(if (x++t250).size+t254.size≤9223372036854775807 then (spec_l05Bytes.l0 k ((x++t250)++t254) ((i+1:Nat):Int) true keys vals kids) else (none))) else (none))) else (none))) (fun k=> ?_) ?_,Ev.step (f:=fun k=>(impl_shortOf.f k keys[i]).bind fun t250=>(if x.size+t250.size≤9223372036854775807 then (if true=true then (if (i:Int)<(vals.length:Int) then ((impl_shortOf.f k vals[i]).bind fun t252=>(if (x++t250).size+t252.size≤9223372036854775807 then (impl_NodeText.l0 k ((x++t250)++t252) keys (keys.length:Int) ((i+1:Nat):Int) true keys vals kids) else (none))) else (none)) else (if (i:Int)<(kids.length:Int) then ((impl_varText.f k (rd kids (i:Int))).bind fun t254=>(if (x++t250).size+t254.size≤9223372036854775807 then (impl_NodeText.l0 k ((x++t250)++t254) keys (keys.length:Int) ((i+1:Nat):Int) true keys vals kids) else (none))) else (none))) else (none))) (fun k=> ?_) ?_,a3⟩
   ·rw [spec_l05Bytes.l0,if_pos zq11,if_pos zq11,zla _ _ _ hlt,zla _ _ _ hlv,w2]
   ·refine Ev.bind (shS_ev _ hki) ?_
    simp only [if_pos (show x.size+(shN keys[i]).size≤9223372036854775807 by omega),if_true,if_pos (show (i:Int)<(vals.length:Int) by omega)]
    refine Ev.bind (shS_ev _ hvi) ?_
    simp only [if_pos (show (x++shN keys[i]).size+(shN vals[i]).size≤9223372036854775807 by omega)]
    exact a1
   ·rw [impl_NodeText.l0,if_pos zq11,if_pos zq11,if_pos zq11,zla _ _ _ hlt,zla _ _ _ hlv,w2]
   ·refine Ev.bind (shI_ev _ hki) ?_
    simp only [if_pos (show x.size+(shN keys[i]).size≤9223372036854775807 by omega),if_true,if_pos (show (i:Int)<(vals.length:Int) by omega)]
    refine Ev.bind (shI_ev _ hvi) ?_
    simp only [if_pos (show (x++shN keys[i]).size+(shN vals[i]).size≤9223372036854775807 by omega)]
    exact a2
  |false=>
   obtain ⟨v1,v2⟩:=hd rfl
   have hlv:i<kids.length:=zq11
   have hvi:=v2 _ (List.getElem_mem hlv)
   have k2:=vz_N kids[i]
   have z2:(x++shN keys[i]).size=x.size+(shN keys[i]).size:=ByteArray.size_append
   obtain ⟨y,a1,a2,a3⟩:=ih (i+1) ((x++shN keys[i])++vtN kids[i]) zq11 (by rw [ByteArray.size_append,z2];omega)
   refine ⟨y,Ev.step (f:=fun k=>(spec_l04Short.f k keys[i]).bind fun t250=>(if x.size+t250.size≤9223372036854775807 then (if false=true then (if (i:Int)<(vals.length:Int) then ((spec_l04Short.f k (zpa ByteArray.empty vals (i:Int))).bind fun t252=>(if (x++t250).size+t252.size≤9223372036854775807 then (spec_l05Bytes.l0 k ((x++t250)++t252) ((i+1:Nat):Int) false keys vals kids) else (none))) else (none)) else (if (i:Int)<(kids.length:Int) then ((spec_l01Var.f k kids[i]).bind fun t254=>(if (x++t250).size+t254.size≤9223372036854775807 then (spec_l05Bytes.l0 k ((x++t250)++t254) ((i+1:Nat):Int) false keys vals kids) else (none))) else (none))) else (none))) (fun k=> ?_) ?_,Ev.step (f:=fun k=>(impl_shortOf.f k keys[i]).bind fun t250=>(if x.size+t250.size≤9223372036854775807 then (if false=true then (if (i:Int)<(vals.length:Int) then ((impl_shortOf.f k (zpa ByteArray.empty vals (i:Int))).bind fun t252=>(if (x++t250).size+t252.size≤9223372036854775807 then (impl_NodeText.l0 k ((x++t250)++t252) keys (keys.length:Int) ((i+1:Nat):Int) false keys vals kids) else (none))) else (none)) else (if (i:Int)<(kids.length:Int) then ((impl_varText.f k kids[i]).bind fun t254=>(if (x++t250).size+t254.size≤9223372036854775807 then (impl_NodeText.l0 k ((x++t250)++t254) keys (keys.length:Int) ((i+1:Nat):Int) false keys vals kids) else (none))) else (none))) else (none))) (fun k=> ?_) ?_,a3⟩
   ·rw [spec_l05Bytes.l0,if_pos zq11,if_pos zq11,zla _ _ _ hlt,rd_nat _ _ hlv,w2]
   ·refine Ev.bind (shS_ev _ hki) ?_
    simp only [if_pos (show x.size+(shN keys[i]).size≤9223372036854775807 by omega),if_neg (show ¬(false=true) by decide),if_pos (show (i:Int)<(kids.length:Int) by omega)]
    refine Ev.bind (vS_ev _ zq11 zq11) ?_
    simp only [if_pos (show (x++shN keys[i]).size+(vtN kids[i]).size≤9223372036854775807 by omega)]
    exact a1
   ·rw [impl_NodeText.l0,if_pos zq11,if_pos zq11,if_pos zq11,zla _ _ _ hlt,rd_nat _ _ hlv,w2]
   ·refine Ev.bind (shI_ev _ hki) ?_
    simp only [if_pos (show x.size+(shN keys[i]).size≤9223372036854775807 by omega),if_neg (show ¬(false=true) by decide),if_pos (show (i:Int)<(kids.length:Int) by omega)]
    refine Ev.bind (vI_ev _ zq11 zq11) ?_
    simp only [if_pos (show (x++shN keys[i]).size+(vtN kids[i]).size≤9223372036854775807 by omega)]
    exact a2
theorem nt_j (leaf:Bool) (keys vals:List ByteArray) (kids:List Int) (c:ByteArray) (hc:c.size=1) (hl:keys.length≤4) (hk:∀s∈keys,s.size≤24) (hv:leaf=true→vals.length=keys.length∧∀s∈vals,s.size≤24) (hd:leaf=false→kids.length=keys.length∧∀x∈kids,2≤x∧x≤39):
  ∃y:ByteArray,Ev (fun k=>spec_l05Bytes.j0 k c leaf keys vals kids) y∧Ev (fun k=>impl_NodeText.j0 k c leaf keys vals kids) (y++sealN y,true)∧y.size≤1000:=by
 have k1:=vz_N (keys.length:Int)
 obtain ⟨y,a1,a2,a3⟩:=nt_go leaf keys vals kids hl hk hv hd keys.length 0 (c++vtN (keys.length:Int)) zq11 (by rw [ByteArray.size_append];omega)
 refine ⟨y,Ev.step (f:=fun k=>(spec_l01Var.f k (keys.length:Int)).bind fun t=>(if c.size+t.size≤9223372036854775807 then (spec_l05Bytes.l0 k (c++t) 0 leaf keys vals kids) else (none))) (fun k=> ?_) (Ev.bind (vS_ev _ zq11 zq11) ?_),Ev.step (f:=fun k=>(impl_varText.f k (keys.length:Int)).bind fun t=>(if c.size+t.size≤9223372036854775807 then (impl_NodeText.l0 k (c++t) keys (keys.length:Int) 0 leaf keys vals kids) else (none))) (fun k=> ?_) (Ev.bind (vI_ev _ zq11 zq11) ?_),a3⟩
 ·rw [spec_l05Bytes.j0]
 ·simp only [if_pos (show c.size+(vtN (keys.length:Int)).size≤9223372036854775807 by omega)]
  exact a1
 ·rw [impl_NodeText.j0]
 ·simp only [if_pos (show c.size+(vtN (keys.length:Int)).size≤9223372036854775807 by omega)]
  exact a2
theorem nt_ev (leaf:Bool) (keys vals:List ByteArray) (kids:List Int):∃t b,Ev (fun k=>spec_NodeText.f k leaf keys vals kids) (t,b)∧Ev (fun k=>impl_NodeText.f k leaf keys vals kids) (t,b):=by
 have hS:=spec_NodeOk_ev leaf keys vals kids
 cases hb:nodeOkB leaf keys vals kids with
 |false=>
  rw [hb] at hS
  refine ⟨⟨#[]⟩,false,Ev.bind hS ?_,?_⟩
  ·simp only [if_neg (show ¬(false=true) by decide)]
   exact Ev.now _
  ·unfold impl_NodeText.f impl_NodeOk.f
   simp only [hb,Option.bind_some,if_neg (show ¬(false=true) by decide)]
   exact Ev.now _
 |true=>
  rw [hb] at hS
  obtain ⟨⟨⟨s0,s1⟩,s2,s3⟩,hc⟩:=(nodeOk_iff leaf keys vals kids).1 hb
  have gK:∀s∈keys,s.size≤24:=by
   intro s hs
   obtain ⟨j,hj,rfl⟩:=List.getElem_of_mem hs
   have:=(hc j hj).1
   rwa [List.getD_eq_getElem?_getD,List.getElem?_eq_getElem hj] at this
  have gV:leaf=true→vals.length=keys.length∧∀s∈vals,s.size≤24:=by
   intro e
   refine ⟨(s2 e).1,fun s hs=> ?_⟩
   obtain ⟨j,hj,rfl⟩:=List.getElem_of_mem hs
   have:=(hc j (by have:=(s2 e).1;omega)).2.2.1 e
   rwa [List.getD_eq_getElem?_getD,List.getElem?_eq_getElem hj] at this
  have gD:leaf=false→kids.length=keys.length∧∀x∈kids,2≤x∧x≤39:=by
   intro e
   refine ⟨(s3 e).1,fun x hx=> ?_⟩
   obtain ⟨j,hj,rfl⟩:=List.getElem_of_mem hx
   have h1:=(hc j (by have:=(s3 e).1;omega)).2.2.2 e
   rw [List.getD_eq_getElem?_getD,List.getElem?_eq_getElem hj] at h1
   exact ⟨h1.1,h1.2.1⟩
  have key:∃y:ByteArray,Ev (fun k=>spec_l05Bytes.f k leaf keys vals kids) y∧Ev (fun k=>if leaf=true then impl_NodeText.j0 k (⟨#[108]⟩:ByteArray) leaf keys vals kids else impl_NodeText.j0 k (⟨#[98]⟩:ByteArray) leaf keys vals kids) (y++sealN y,true)∧y.size≤1000:=by
   unfold spec_l05Bytes.f
   cases leaf with
   |true=>
    simp only [if_true]
    exact nt_j true keys vals kids ⟨#[108]⟩ rfl s1 gK gV gD
   |false=>
    simp only [if_neg (show ¬(false=true) by decide)]
    exact nt_j false keys vals kids ⟨#[98]⟩ rfl s1 gK gV gD
  obtain ⟨y,a1,a2,a3⟩:=key
  refine ⟨y++sealN y,true,Ev.bind hS ?_,?_⟩
  ·simp only [if_true]
   exact Ev.bind a1 (Ev.bind (sealS_ev y zq11) (Ev.now _))
  ·unfold impl_NodeText.f impl_NodeOk.f
   simp only [hb,Option.bind_some,if_true]
   exact a2
theorem Ev.uniq {α:Type} {f:Nat→Option α} {a b:α} (h:Ev f a) (g:Ev f b):a=b:=by
 obtain ⟨K,h⟩:=h
 obtain ⟨J,g⟩:=g
 have h1:=h (K+J) zq11
 rw [g (K+J) zq11] at h1
 exact (Option.some.inj h1).symm
theorem mhW2_ev (p:List ByteArray) (q:List S135) (n:Int) (u g f:List Int) (hp:p.length≤2000000) (hq:q.length≤2000000) (hu:u.length≤2000000) (hg:g.length≤2000000) (hf:f.length≤2000000):
  ∃p' q' u' g' f' a1 a2 a3 a4,Ev (fun k=>laws_markDisk.f k p q 1) (a1,p',q')∧Ev (fun k=>laws_markIntS.f k u a1) (a2,u')∧Ev (fun k=>laws_markIntS.f k g a2) (a3,g')∧Ev (fun k=>laws_markIntS.f k f a3) (a4,f')∧¬a4<0∧EvP (fun k=>HeldWork k (p',q',n,u',g',f') 1 a4):=by
 obtain ⟨p',q',e1,d1⟩:=mhD_ev p q 1 zq11 zq11 hp hq
 obtain ⟨u',e2,d2⟩:=mhI_ev u (1+p.length+2*q.length) zq11 zq11 hu
 obtain ⟨g',e3,d3⟩:=mhI_ev g (1+p.length+2*q.length+u.length) zq11 zq11 hg
 obtain ⟨f',e4,d4⟩:=mhI_ev f (1+p.length+2*q.length+u.length+g.length) zq11 zq11 hf
 exact ⟨p',q',u',g',f',_,_,_,_,e1,e2,e3,e4,zq11,((EvP.of d1).and ((EvP.of d2).and ((EvP.of d3).and (EvP.of d4)))).imp (fun k h=>⟨_,_,_,h.1,zq11,h.2.1,zq11,h.2.2.1,zq11,h.2.2.2,zq11⟩)⟩
def OKw (d:(List ByteArray×List S135×Int×List Int×List Int×List Int)):Prop:=(d.1.length≤1048576∧d.2.1.length≤1048576)∧d.2.2.2.1.length≤1048576∧d.2.2.2.2.1.length≤1048576∧d.2.2.2.2.2.length≤1048576
def INw (a:(List ByteArray×List S140×Int×List Int×List Int×List Int)):Prop:=INd a.1 a.2.1∧INi a.2.2.2.1∧INi a.2.2.2.2.1∧INi a.2.2.2.2.2
def INn (a:(Bool×List ByteArray×List ByteArray×List Int)):Prop:=((∀s∈a.2.1,s.size≤9223372036854775807)∧a.2.1.length≤9223372036854775807)∧((∀s∈a.2.2.1,s.size≤9223372036854775807)∧a.2.2.1.length≤9223372036854775807)∧a.2.2.2.length≤9223372036854775807
theorem pn_ev (d:(List ByteArray×List S135×Int×List Int×List Int×List Int)) (nz:(Bool×List ByteArray×List ByteArray×List Int)) (h:OKw d):∃z p,EvP (fun k=>SpecPN k d nz z p)∧EvP (fun k=>ImplPN k d nz z p)∧((z.1.length≤2000000∧z.2.1.length≤2000000)∧z.2.2.2.1.length≤2000000∧z.2.2.2.2.1.length≤2000000∧z.2.2.2.2.2.length≤2000000):=by
 obtain ⟨l0,l1,l2,l3,l4,l5⟩:=d
 obtain ⟨⟨b0,b1⟩,b3,b4,b5⟩:=h
 have b0:l0.length≤1048576:=b0
 have b1:l1.length≤1048576:=b1
 have b3:l3.length≤1048576:=b3
 have b4:l4.length≤1048576:=b4
 have b5:l5.length≤1048576:=b5
 have hb:(l0.length≤2000000∧l1.length≤2000000)∧l3.length≤2000000∧l4.length≤2000000∧l5.length≤2000000:=zq11
 obtain ⟨t,b,tS,tI⟩:=nt_ev nz.1 nz.2.1 nz.2.2.1 nz.2.2.2
 cases b with
 |false=>exact ⟨_,0,(EvP.of tS).imp (fun k hk=>⟨hb,t,false,hk,.inl ⟨rfl,rfl,rfl⟩⟩),(EvP.of tI).imp (fun k hk=>⟨hb,t,false,hk,.inl ⟨rfl,rfl,rfl⟩⟩),hb⟩
 |true=>
  obtain ⟨y0,y1,y2,y3,y4,y5,p,gS,gI,c0,c1,c3,c4,c5⟩:=give_both l0 l1 l2 l3 l4 l5 b0 b1 b3 b4 b5
  by_cases hp:p=0
  ·subst hp
   exact ⟨_,0,(EvP.of tS).imp (fun k hk=>⟨hb,t,true,hk,.inr ⟨rfl,(y0,y1,y2,y3,y4,y5),0,gS,.inl ⟨rfl,rfl,rfl⟩⟩⟩),(EvP.of tI).imp (fun k hk=>⟨hb,t,true,hk,.inr ⟨rfl,(y0,y1,y2,y3,y4,y5),0,gI,.inl ⟨rfl,rfl,rfl⟩⟩⟩),hb⟩
  ·have wI:=writeI_f (y0,y1) p t c0 c1
   have wS:=writeS_ev (y0,y1) p t c0 c1
   obtain ⟨u,hu⟩:∃u,u=wrD (y0,y1) p t:=⟨_,rfl⟩
   have ul:u.1.length≤2000000∧u.2.length≤2000000:=by
    rw [hu]
    unfold wrD
    split
    ·rename_i hw
     refine ⟨c0,?_⟩
     have hd:wrOk y0 y1 p t=true:=hw
     unfold wrOk DOk at hd
     simp only [Bool.and_eq_true,Bool.not_eq_true',decide_eq_false_iff_not] at hd
     simp only [List.length_append,List.length_singleton]
     omega
    ·exact ⟨c0,c1⟩
   rw [←hu] at wI wS
   cases hc:wrOk y0 y1 p t with
   |false=>
    replace wI:impl_WritePage.f y0 y1 p t=some (u.1,u.2,false):=by rw [←hc];exact wI
    replace wS:Ev (fun k=>spec_WritePage.f k y0 y1 p t) (u.1,u.2,false):=by rw [←hc];exact wS
    exact ⟨_,0,((EvP.of tS).and (EvP.of wS)).imp (fun k hk=>⟨hb,t,true,hk.1,.inr ⟨rfl,(y0,y1,y2,y3,y4,y5),p,gS,.inr ⟨hp,u,false,hk.2,.inl ⟨rfl,rfl,rfl⟩⟩⟩⟩),(EvP.of tI).imp (fun k hk=>⟨hb,t,true,hk,.inr ⟨rfl,(y0,y1,y2,y3,y4,y5),p,gI,.inr ⟨hp,u,false,wI,.inl ⟨rfl,rfl,rfl⟩⟩⟩⟩),hb⟩
   |true=>
    replace wI:impl_WritePage.f y0 y1 p t=some (u.1,u.2,true):=by rw [←hc];exact wI
    replace wS:Ev (fun k=>spec_WritePage.f k y0 y1 p t) (u.1,u.2,true):=by rw [←hc];exact wS
    exact ⟨(u.1,u.2,y2,y3,y4,y5),p,((EvP.of tS).and (EvP.of wS)).imp (fun k hk=>⟨hb,t,true,hk.1,.inr ⟨rfl,(y0,y1,y2,y3,y4,y5),p,gS,.inr ⟨hp,u,true,hk.2,.inr ⟨rfl,rfl,rfl⟩⟩⟩⟩),(EvP.of tI).imp (fun k hk=>⟨hb,t,true,hk,.inr ⟨rfl,(y0,y1,y2,y3,y4,y5),p,gI,.inr ⟨hp,u,true,wI,.inr ⟨rfl,rfl,rfl⟩⟩⟩⟩),ul,c3,c4,c5⟩
theorem eq_work (d:(List ByteArray×List S135×Int×List Int×List Int×List Int)) (h:(d.1.length≤2000000∧d.2.1.length≤2000000)∧d.2.2.2.1.length≤2000000∧d.2.2.2.2.1.length≤2000000∧d.2.2.2.2.2.length≤2000000):EvP (fun k=>EqWork k d):=by
 obtain ⟨l0,l1,l2,l3,l4,l5⟩:=d
 obtain ⟨h5,h6,h7,h8⟩:=h
 exact ((EvP.of (eqD_ev l0 l1 h5.1 h5.2)).and ((EvP.of (eqI_ev l3 h6)).and ((EvP.of (eqI_ev l4 h7)).and (EvP.of (eqI_ev l5 h8))))).imp (fun k h=>h)
theorem eqS_ev (l:List ByteArray) (h:l.length≤1048576):Ev (fun k=>laws_eqStringS.f k l l) true:=by
 refine Ev.of (k:=l.length+1) (fun k=>laws_eqStringS.mono _ _ k) ?_
 unfold laws_eqStringS.f
 rw [if_pos rfl]
 exact eqS_go l zq11 l.length 0 zq11
theorem sz_node (a:(Bool×List ByteArray×List ByteArray×List Int)) (h:INn a) (x:Int) (h0:0≤x) (hx:x≤1048576):∃r,Ev (fun k=>szNode_c_f k a x) r∧(r<0∨(0≤r∧r≤x∧a.2.1.length≤1048576∧a.2.2.1.length≤1048576∧a.2.2.2.length≤1048576)):=by
 obtain ⟨b,k1,k2,k3⟩:=a
 obtain ⟨h1,h2,h3⟩:=h
 have st:∀(l:List ByteArray),((∀s∈l,s.size≤9223372036854775807)∧l.length≤9223372036854775807)→∀v,0≤v→v≤1048576→∃r,Ev (fun k=>laws_szStringS.f k l v) r∧(r<0∨(0≤r∧r≤v∧l.length≤1048576)):=by
  intro l hl v v0 v1
  obtain ⟨r,e,h⟩:=szS_ev l hl.1 hl.2 v v0 v1
  refine ⟨r,e,h.imp id (fun h=>⟨h.1,h.2.1,?_⟩)⟩
  have:=h.2.2.1
  omega
 obtain ⟨r,e,h⟩:=sz_step (st k1 h1 x h0 hx) (fun v v0 v1=>sz_step (st k2 h2 v v0 zq11) (fun u u0 u1=>sz_end (szIx k3 h3 u u0 zq11)))
 exact ⟨r,e,h⟩
theorem pn_law (a:(List ByteArray×List S140×Int×List Int×List Int×List Int)) (b:(Bool×List ByteArray×List ByteArray×List Int)) (ha:INw a) (hb:INn b) {cs cn:List Value} (w:World) (h:kWorkL.K w a cs) (hn:kNode.K w b cn):
  Calls Try.prog 4 #[.agg cs.toArray,.agg cn.toArray] w fun e w'=>e= .returned (.bool true)∧Below w.heap.size w w':=by
 obtain ⟨l0,l1,l2,l3,l4,l5⟩:=a
 obtain ⟨hd,h3,h4,h5⟩:=ha
 obtain ⟨r,⟨K0,er⟩,hr⟩:=szWx l0 l1 l2 l3 l4 l5 hd h3 h4 h5 1048576 zq11 zq11
 rcases hr with hr|⟨hr,hr1,hs,hu,hg,hf⟩
 ·exact pn_small0 K0 _ b r w h hn (er K0 (Nat.le_refl _)) hr
 ·obtain ⟨r1,⟨K1,er1⟩,hq⟩:=sz_node b hb r hr hr1
  have hr0:¬r<0:=zq11
  rcases hq with hq|⟨hq,_,n1,n2,n3⟩
  ·exact pn_small1 (K0+K1) _ b r r1 w h hn (er _ zq11) (er1 _ zq11) hr0 hq
  ·have hc:(l1.map conv).length≤1048576:=by rw [List.length_map];exact hs.2.1
   have hw:EvP (fun k=>ToWork k (l0,l1,l2,l3,l4,l5) (l0,l1.map conv,l2,l3,l4,l5)):=((EvP.of (toD_ev _ _ hs)).and ((EvP.now rfl).and ((EvP.of (toI_ev _ hu)).and ((EvP.of (toI_ev _ hg)).and (EvP.of (toI_ev _ hf)))))).imp (fun k h=>h)
   have hnode:EvP (fun k=>ToNode k b b):=((EvP.now rfl).and ((EvP.of (toS_ev _ n1)).and ((EvP.of (toS_ev _ n2)).and (EvP.of (toI_ev _ n3))))).imp (fun k h=>h)
   obtain ⟨z,p,hsp,him,hz⟩:=pn_ev (l0,l1.map conv,l2,l3,l4,l5) b ⟨⟨hs.1.1,hc⟩,hu,hg,hf⟩
   obtain ⟨z0,z1,z2,z3,z4,z5⟩:=z
   obtain ⟨⟨c0,c1⟩,c3,c4,c5⟩:=hz
   have c0:z0.length≤2000000:=c0
   have c1:z1.length≤2000000:=c1
   have c3:z3.length≤2000000:=c3
   have c4:z4.length≤2000000:=c4
   have c5:z5.length≤2000000:=c5
   have s0:l0.length≤1048576:=hs.1.1
   obtain ⟨p',q',u',g',f',a1,a2,a3,a4,e1,e2,e3,e4,ha4,-⟩:=mhW2_ev l0 (l1.map conv) l2 l3 l4 l5 zq11 zq11 zq11 zq11 zq11
   have ha5:a4=1+l0.length+2*(l1.map conv).length+l3.length+l4.length+l5.length:=by
    obtain ⟨x',y',m1,-⟩:=mhD_ev l0 (l1.map conv) 1 zq11 zq11 zq11 zq11
    obtain ⟨w1,m2,-⟩:=mhI_ev l3 (1+l0.length+2*(l1.map conv).length) zq11 zq11 zq11
    obtain ⟨w2,m3,-⟩:=mhI_ev l4 (1+l0.length+2*(l1.map conv).length+l3.length) zq11 zq11 zq11
    obtain ⟨w3,m4,-⟩:=mhI_ev l5 (1+l0.length+2*(l1.map conv).length+l3.length+l4.length) zq11 zq11 zq11
    have q1:=Prod.mk.inj (Ev.uniq e1 m1)
    obtain ⟨rfl,-⟩:=q1
    have q2:=Prod.mk.inj (Ev.uniq e2 m2)
    obtain ⟨rfl,-⟩:=q2
    have q3:=Prod.mk.inj (Ev.uniq e3 m3)
    obtain ⟨rfl,-⟩:=q3
    exact (Prod.mk.inj (Ev.uniq e4 m4)).1
   obtain ⟨t1,m5,-⟩:=mhS b.2.1.length 0 b.2.1 a4 zq11 zq11 zq11 zq11
   obtain ⟨t2,m6,-⟩:=mhS b.2.2.1.length 0 b.2.2.1 (a4+b.2.1.length) zq11 zq11 zq11 zq11
   obtain ⟨t3,m7,-⟩:=mhI_ev b.2.2.2 (a4+b.2.1.length+b.2.2.1.length) zq11 zq11 zq11
   have hmk1:EvP (fun k=>MarkNode k b a4 (b.1,t1,t2,t3) (a4+b.2.1.length+b.2.2.1.length+b.2.2.2.length)):=(EvP.of (show Ev (fun k=>laws_markNode.f k b.1 b.2.1 b.2.2.1 b.2.2.2 a4) (a4+b.2.1.length+b.2.2.1.length+b.2.2.2.length,t1,t2,t3) from Ev.bind m5 (Ev.bind m6 (Ev.bind m7 (Ev.now _))))).imp (fun k h=>⟨rfl,h⟩)
   have hmk0:EvP (fun k=>MarkWork k (l0,l1.map conv,l2,l3,l4,l5) 1 (p',q',l2,u',g',f') a4):=((EvP.of e1).and ((EvP.of e2).and ((EvP.of e3).and (EvP.of e4)))).imp (fun k h=>⟨a1,a2,a3,h.1,h.2.1,h.2.2.1,h.2.2.2,rfl⟩)
   obtain ⟨p2,q2,u2,g2,f2,v1,v2,v3,v4,d1,d2,d3,d4,hv4,dh⟩:=mhW2_ev z0 z1 z2 z3 z4 z5 c0 c1 c3 c4 c5
   have hmg:EvP (fun k=>MarkWork k (z0,z1,z2,z3,z4,z5) 1 (p2,q2,z2,u2,g2,f2) v4):=((EvP.of d1).and ((EvP.of d2).and ((EvP.of d3).and (EvP.of d4)))).imp (fun k h=>⟨v1,v2,v3,h.1,h.2.1,h.2.2.1,h.2.2.2,rfl⟩)
   have heN:EvP (fun k=>EqNode k b):=by
    have e:=(EvP.of (eqS_ev b.2.1 n1)).and ((EvP.of (eqS_ev b.2.2.1 n2)).and (EvP.of (eqI_ev b.2.2.2 zq11)))
    refine e.imp (fun k h=> ?_)
    unfold EqNode laws_eqNode.f
    rw [if_neg zq52,h.1,Option.bind_some,if_pos rfl,h.2.1,Option.bind_some,if_pos rfl,h.2.2,Option.bind_some,if_pos rfl]
   obtain ⟨K,hK⟩:=(EvP.of ⟨K0,er⟩).and ((EvP.of ⟨K1,er1⟩).and (hw.and (hnode.and (hsp.and (him.and ((eq_work (z0,z1,z2,z3,z4,z5) ⟨⟨c0,c1⟩,c3,c4,c5⟩).and ((eq_work (l0,l1.map conv,l2,l3,l4,l5) ⟨⟨Nat.le_trans s0 zq26,Nat.le_trans hc zq26⟩,Nat.le_trans hu zq26,Nat.le_trans hg zq26,Nat.le_trans hf zq26⟩).and (heN.and (hmk0.and (hmk1.and (hmg.and dh)))))))))))
   obtain ⟨f1,f2_,f3,f4,f5,f6,f7,f8,f9,f10,f11,f12,f13⟩:=hK K (Nat.le_refl _)
   exact pn_great K _ b r r1 (l0,l1.map conv,l2,l3,l4,l5) (p',q',l2,u',g',f') b (b.1,t1,t2,t3) (z0,z1,z2,z3,z4,z5) (p2,q2,z2,u2,g2,f2) p a4 (a4+b.2.1.length+b.2.2.1.length+b.2.2.2.length) v4 w h hn f1 f2_ f3 f4 f5 f6 f7 f8 f9 f10 f11 f12 f13 hr0 zq11 zq11 hv4
end Go.Proofs.Ytonhdiemjgdcnaa.PFnExactGivePage
namespace Go.Proofs.Ytonhdiemjgdcnaa.PFnExactGivePage
open Go.ChangeShapes Go.WideShapes Go.ChangeAt Go.RowKit
open Go.ChangeMaps (open_string shut_string)
open Go.Proofs.Ytonhdiemjgdcnaa.Opened Go.Proofs.YtonhdiemjgdcnaaW.PrintWords
theorem open_work {H:Type} {enc:TypeId×Value→H} {w:World} {base b0:Nat} {spare:Nat→Bool} {held:Bool} {r:Reach} {v:Value} {x:DataW H} {p:List MemPlace} (hv:Value.okWide Try.prog w r b0 28 v) (h:DataW.Trod enc Try.prog w base spare held 28 v x p):
  ∃(a:(List ByteArray×List S140×Int×List Int×List Int×List Int)) (cs:List Value),v= .agg cs.toArray∧kWorkL.K w a cs∧INw a:=by
 obtain ⟨ok,ho,hk⟩:=opens28
 obtain ⟨a,cs,rfl,h1,h2⟩:=arg_struct Try.underlying28 ho hv h
 exact ⟨a,cs,rfl,Kw_of h1,KW_len (Kw_of h1) (hk _ h2)⟩
def dNode:Kd (Bool×List ByteArray×List ByteArray×List Int):=Kd.pair Kd.bool (Kd.pair (Kd.slice 9 Kd.string) (Kd.pair (Kd.slice 9 Kd.string) (Kd.slice 3 (Kd.int .i64))))
theorem opens42:Opens Try.prog 42 (Kd.iso dNode id) (fun a=>True∧(∀s∈a.2.1,s.size≤9223372036854775807)∧(∀s∈a.2.2.1,s.size≤9223372036854775807)∧∀y∈a.2.2.2,True):=
 zIa (P:=Try.prog) Try.underlying42 (zma (opens_bool Try.underlying4) rfl zq15 (zma (zFa Try.underlying22 (zJa Try.underlying9) zq15 9) rfl zq15 (zma (zFa Try.underlying22 (zJa Try.underlying9) zq15 9) rfl zq15 (parts_last opensI rfl zq15) rfl) rfl) rfl) zq15 id id (fun _=>rfl)
theorem open_node {H:Type} {enc:TypeId×Value→H} {w:World} {base b0:Nat} {spare:Nat→Bool} {held:Bool} {r:Reach} {v:Value} {x:DataW H} {p:List MemPlace} (hv:Value.okWide Try.prog w r b0 42 v) (h:DataW.Trod enc Try.prog w base spare held 42 v x p):
  ∃(a:(Bool×List ByteArray×List ByteArray×List Int)) (cs:List Value),v= .agg cs.toArray∧kNode.K w a cs∧INn a:=by
 obtain ⟨a,cs,rfl,h1,h2⟩:=arg_struct Try.underlying42 opens42 hv h
 obtain ⟨_,_,rfl,hb,_,_,rfl,⟨A1,c1,rfl,m1,r1⟩,_,_,rfl,⟨A2,c2,rfl,m2,r2⟩,⟨A3,c3,rfl,m3,r3⟩⟩:=h1
 exact ⟨a,_,rfl,⟨_,_,rfl,hb,_,_,rfl,⟨A1,c1,rfl,m1,r1⟩,_,_,rfl,⟨A2,c2,rfl,m2,r2⟩,⟨A3,c3,rfl,m3,r3⟩⟩,⟨h2.2.1,r1.2.1⟩,⟨h2.2.2.1,r2.2.1⟩,r3.2.1⟩
end Go.Proofs.Ytonhdiemjgdcnaa.PFnExactGivePage
namespace Go.Proofs.Ytonhdiemjgdcnaa.Head
def w1:List Char:=[104,97,114,110,101,115,115].map Char.ofNat
def w2:List Char:=[102,102,99,99,97,102,100,57,54,99,57,54,100,98,54,53,56,98,100,57,100,102,97,56,49,98,54,52,48,99,56,57,52,97,101,102,52,49,97,98,49,50,52,102,49,51,48,52,52,99,53,53,98,101,54,56,56,49,55,53,55,54,55,56].map Char.ofNat
def w3:List Char:=[99,117,116].map Char.ofNat
def w4:List Char:=[97,116,32,108,111,111,112,46,101,120,97,109,112,108,101,47,103,48,48,50,52,48,47,108,97,119,115,46,70,110,69,120,97,99,116,71,105,118,101,80,97,103,101,32,108,111,111,112,46,101,120,97,109,112,108,101,47,103,48,48,50,52,48,47,108,97,119,115,46,70,110,69,120,97,99,116,80,117,116,78,111,100,101,32,108,111,111,112,46,101,120,97,109,112,108,101,47,103,48,48,50,52,48,47,108,97,119,115,46,70,110,69,120,97,99,116,79,112,101,110,32,108,111,111,112,46,101,120,97,109,112,108,101,47,103,48,48,50,52,48,47,108,97,119,115,46,70,110,69,120,97,99,116,69,110,100,82,101,97,100,32,108,111,111,112,46,101,120,97,109,112,108,101,47,103,48,48,50,52,48,47,108,97,119,115,46,70,110,69,120,97,99,116,83,116,111,112,87,114,105,116,101,32,108,111,111,112,46,101,120,97,109,112,108,101,47,103,48,48,50,52,48,47,108,97,119,115,46,70,110,69,120,97,99,116,78,101,120,116,77,101,116,97].map Char.ofNat
def blank:Char:=Char.ofNat 32
theorem cut_at (a r:List Char) (h:a.all (· !=blank)=true):wordsSigns (a++blank::r)=a::wordsSigns r:=by
 induction a with
 |nil=>rfl
 |cons c a ih=>
  simp only [List.all_cons,Bool.and_eq_true,bne_iff_ne] at h
  have e:=ih h.2
  have hc:∀s,wordsSigns (c::s)=match wordsSigns s with|w::ws=>(c::w)::ws|[]=>[[c]]:=by
   intro s
   conv=>lhs;unfold wordsSigns
   split
   ·rename_i h0;cases h0
   ·rename_i h0
    injection h0 with h1 h2
    exact absurd h1 h.1
   ·rename_i h0 _ h1
    injection h1 with h2 h3
    subst h2
    subst h3
    rfl
  show wordsSigns (c::(a++blank::r))=_
  rw [hc,e]
theorem io:Try.prog.initOrder=String.ofList (w1++blank::(w2++blank::(w3++blank::w4))):=zq15
theorem words:wordsSigns Try.prog.initOrder.toList=w1::w2::w3::wordsSigns w4:=by
 rw [io,String.toList_ofList,cut_at _ _ zq15,cut_at _ _ zq15,cut_at _ _ zq15]
theorem m0:((w1== "harness".toList||w1== "ownmain".toList)&&isSumSigns w2)=true:=zq15
theorem m1:(w3== "gc".toList)=false:=zq15
theorem m2:(w3== "spec".toList)=false:=zq15
theorem m3:(w3== "cut".toList)=true:=zq15
theorem m4:(w3== "carried".toList)=false:=zq15
theorem m5 (R:List (List Char)):((w3::R).head?==some "cut".toList)=true:=zq15
theorem m5c (R:List (List Char)):((w3::R).head?==some "carried".toList)=false:=zq15
theorem m6 (R:List (List Char)):stripLifts liftWords (w3::R)=([],w3::R):=zq15
theorem m7:Try.prog.laysLater=false:=zq15
theorem m8:Try.prog.bearsReflect=false:=zq15
theorem m9:Try.prog.doorFits []=true:=zq15
theorem behind (R:List (List Char)):behindMainWord (w1::w2::R)=R:=by
 show (if ((w1== "harness".toList||w1== "ownmain".toList)&&isSumSigns w2)=true then R else w1::w2::R)=R
 rw [if_pos m0]
theorem beh:∃R,behindMainWord (wordsSigns Try.prog.initOrder.toList)=w3::R:=⟨wordsSigns w4,by rw [words,behind]⟩
theorem lifts_of (P:Program) (R:List (List Char)) (h:behindMainWord (wordsSigns P.initOrder.toList)=w3::R):(false==P.liftsFinal)=true:=by
 unfold Program.liftsFinal Program.headLifts
 rw [h]
 simp only [m5,m5c,m6]
 rfl
theorem may_of (P:Program) (R:List (List Char)) (h:behindMainWord (wordsSigns P.initOrder.toList)=w3::R) (h7:P.laysLater=false) (h8:P.bearsReflect=false) (h9:P.doorFits []=true):P.mayEnter=true:=by
 unfold Program.mayEnter
 rw [h]
 simp only [m1,m2,m4,m5,m6,h7,h8,h9]
 rfl
theorem made_of (P:Program) (R:List (List Char)) (h:behindMainWord (wordsSigns P.initOrder.toList)=w3::R):(P.make==some Make.cut)=true:=by
 unfold Program.make Program.headLifts
 rw [h]
 simp only [m1,m2,m3]
 rfl
theorem lifts:(false==Try.prog.liftsFinal)=true:=by
 obtain ⟨R,h⟩:=beh
 exact lifts_of _ R h
theorem may:Try.prog.mayEnter=true:=by
 obtain ⟨R,h⟩:=beh
 exact may_of _ R h m7 m8 m9
theorem made:(Try.prog.make==some Make.cut)=true:=by
 obtain ⟨R,h⟩:=beh
 exact made_of _ R h
theorem laid:laidOutB Try.prog=true:=zq15
theorem maps:mapsRowed Try.prog=true:=zq15
theorem heard:Try.prog.stopsHeard=true:=zq15
theorem plain:(true==Try.prog.plainKeys)=true:=zq15
end Go.Proofs.Ytonhdiemjgdcnaa.Head
