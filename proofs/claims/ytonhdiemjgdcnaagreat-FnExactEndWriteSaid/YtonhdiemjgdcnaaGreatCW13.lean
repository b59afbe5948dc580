import Derived.Test.YtonhdiemjgdcnaaGreatCW12
import Derived.Lib.SliceRun
set_option maxHeartbeats 64000000
set_option maxRecDepth 100000
set_option linter.unusedVariables false
set_option linter.unusedSimpArgs false
namespace Go.Proofs
theorem zq99{P:Prop}(h:P:=by rintro w' ⟨s0,s1,s2⟩;go_simp;with_reducible rfl):P:=h
theorem zq114{P:Prop}(h:P:=by first|rfl|exact congrArg (Value.int .i64) (show wrap64 ((i:Int)+1)=((i+1:Nat):Int) by have:=HL.1;have:=HI.1.2;unfold wrap64;omega)):P:=h
theorem zq147{P:Prop}(h:P:=by
 refine tre_l rfl (zA rfl zq22 112 _ _ rfl g9 0 [.int .i64 tx,.slice Ao l4.length co] [] [.int .i64 0,.slice none 0 0] [] rfl rfl H9.1 rfl rfl rfl zq13 (zta rfl (zta rfl onesN)) (fun W9 hp hn=> ?_))
 have HNE:=zz (Kd.R_ne HO.1 H9.1 zq31)
 replace H9:=zz hn
 replace HN:=zz (HN.1.other hp (by have:=HG9.1;have:=HGT.1;omega))
 replace HS:=zz (putS HS.1 hp (fun k h e=>by have:=HG9.1;have:=h.2;omega))
 replace HO:=zz (R_put1 (ok:=fun k=>T≤k∧k≠g9) (R_ints HO.1 (fun k hk=>⟨HO.1.1 k hk,fun e=>HNE.1 (by rw [←e];exact hk.symm)⟩)) hp (fun k hk=>hk.2))
 clear hp hn HNE
 refine zX ?_
 clear hHeld
 go_wp2_with fail
 go_meet
 exact ⟨g9,.slice Ao l4.length co,rfl,HN,HS,H9,HO,HG9,HGT⟩):P:=h
theorem zq181{P:Prop}(h:P:=by
 refine ⟨⟨HN.1.A,HN.1.B,trivial⟩,(fun hHeld=> ?_)⟩
 refine zw (a':= ?_) zq2 ?_
 refine zS rfl (ev1_approw_i rfl zq22 _ _ rfl rfl rfl HN.1 HS.1 HO.1 (Kd.C_below KG.1.2 HN.1.bel) ⟨HT.1,HGT.1⟩ b4 ?_)
 intro v1 w4 HN4 HS4 HO4 HT4 HB4
 obtain ⟨Ao,co,rfl⟩:=Kd.R_slice HO4.1
 replace HN:=HN4
 replace HS:=HS4
 replace HT:=zz (z5a HT.1 HT4.1)
 replace H9:=zz (HB4.1 _ _ _ zq31 H9.1)
 replace HO:=HO4
 clear HN4 HS4 HO4 HT4 HB4
 refine ⟨⟨HN.1.A,HN.1.B,trivial⟩,(fun hHeld=> ?_)⟩
 refine zw (a':= ?_) zq2 ?_
 (refine zM (v:= ?_) (a':= ?_) rfl rfl (Or.inl ⟨zq22,zq12⟩) zq2 ?_)
 exact zq147):P:=h
theorem zq188{P:Prop}(h:P:=by
 clear h
 go_wp2_with ((with_reducible refine (spec_Sealed.calls k s t0 true _ (by rw [HT0.1];exact HV.1.sS s zq9)).mono ?_);rintro e w2 ⟨rfl,hb⟩;have HB2:=zz hb;clear hb hp3)
 go_ret2
 exact ⟨rfl,ze BA.1.bel HB2.1⟩):P:=h
theorem zq191{P:Prop}(h:P:=by
 have h1:=facc_size HV.1.vz (mhead vt x) (x.f3.take i) (fun f hf=>HO.1.le40 f (List.mem_of_mem_take hf))
 have h2:=mhead_size HV.1.vz x
 have h3:=List.length_take_le i x.f3
 have h4:=HI.1
 rw [hs]
 omega):P:=h
theorem zq192{P:Prop}(h:P:=by
 go_roundg (xs.length-(i+1))
 case measure=>omega
 case rel=>exact ⟨i+1,zs,zq9,.inl (by have:=HI.1.2;omega),zq9,zq114,⟨Kd.R_drewN RZ.1 _⟩,⟨HZ.1.1,ins_done HV.1.1 HV.1.2⟩,⟨zO HB.1 _⟩⟩):P:=h
theorem zq206{P:Prop}(h:P:=by
 have h1:=List.length_filter_le (fun p=>decide (x.f2≤p)) (l3.take j)
 have h2:=List.length_take_le j l3
 have h3:=HJ.1
 rw [hxs,List.length_append]
 omega):P:=h
theorem zq212{P:Prop}(h:P:=by
 rcases HM.1 with h|h|h
 ·exact absurd HO.1 h.1
 ·exact .inl (by rw [ht0,HSB.1];exact h.2)
 ·exact .inr (by rw [ht0,HSB.1];exact h.2)):P:=h
end Go.Proofs
namespace Go.Proofs.YtonhdiemjgdcnaaGreat.PFnExactGivePage
open Go.RowKit Go.Proofs.YtonhdiemjgdcnaaGreatW.PrintWords Go.Proofs.YtonhdiemjgdcnaaGreatW.PrintLast Go.Proofs.YtonhdiemjgdcnaaGreatW.PrintMore
attribute [local go_sem] zma zla zwa zxa zba zca zoa zna
structure FrAt (w:World) (gA:Nat) (fr:List Int):Prop where mk::
 (out:∃(cs:List Value) (AF:Option Addr) (cF:Nat),w.heap[gA]?=some (.cells cs.toArray 46 (0,0))∧cs[9]?=some (.slice AF fr.length cF)∧Kd.C (Kd.int .i64) w AF fr.length fr)
theorem FrAt.step {w w':World} {gA:Nat} {fr:List Int} (h:FrAt w gA fr) (hb:Below w.heap.size w w'):FrAt w' gA fr:=by
 obtain ⟨cs,AF,cF,h1,h2,h3⟩:=h.out
 exact ⟨cs,AF,cF,zg h1 hb,h2,Kd.C_below h3 hb⟩
theorem del1_c (p:Int) (fr:List Int) {gA:Nat} (w:World) (h:FrAt w gA fr) (hl:fr.length≤2000000):Calls Tryz.prog 89 #[.int .i64 p,.pointer (some ⟨gA,0,none⟩)] w fun e w'=>e= .returned (.bool (hasB fr p))∧w=w':=by
 obtain ⟨cs,AF,cF,h1,h2,h3⟩:=h.out
 have hc:w.cell? ⟨gA,9,none⟩=some (.slice AF fr.length cF):=by rw [zj h1];simpa using h2
 have KC:=zz h3
 clear h1 h2 h3 h
 go_enter Tryz.func89,Tryz.ntmps89
 go_wp2_with ((with_reducible refine (hasI _ _ _ _ _ KC.1 hl).mono ?_);rintro e w1 ⟨rfl,rfl⟩)
 go_ret
 exact ⟨rfl,rfl⟩
def IdxfP (xs fr:List Int) (w:World) (e:Ending) (w':World):Prop:=∃r:Int,e= .returned (.int .i64 r)∧w=w'∧((r= -1∧∀x∈xs,hasB fr x=false)∨∃(i:Nat) (h:i<xs.length),r=(i:Int)∧hasB fr xs[i]=true∧∀(j:Nat) (hj:j<xs.length),j<i→hasB fr xs[j]=false)
theorem idxf_c (xs fr:List Int) {A:Option Addr} {c gA:Nat} (w:World) (h:Kd.C (Kd.int .i64) w A xs.length xs) (hF:FrAt w gA fr) (hl:fr.length≤2000000) (hl2:xs.length≤2000000):Calls Tryz.prog 119 #[.slice A xs.length c,.func (.func 89) #[] #[.pointer (some ⟨gA,0,none⟩)]] w (IdxfP xs fr w):=by
 have H:=zz h
 have HF:=zz hF
 clear h hF
 go_enter Tryz.func119,Tryz.ntmps119
 go_wp2
 go_loop [8] (fun v5=>∃i:Nat,v5= .int .i64 (i:Int)∧i≤xs.length∧Z0 (∀(j:Nat) (hj:j<xs.length),j<i→hasB fr xs[j]=false)) (fun v5=>xs.length-(intOf v5).toNat)
 case atStart=>exact ⟨0,rfl,z0b _,⟨fun j hj h=>absurd h (Nat.not_lt_zero _)⟩⟩
 case round=>
  obtain ⟨i,rfl,hi,HN⟩:=hrel
  by_cases hlt:i<xs.length
  ·obtain ⟨ad,hA,hc⟩:=C_at H.1 hlt
   subst hA
   have c3:((0:Int)≤(i:Int))=True:=eq_true zq9
   have c2:((i:Int)<(xs.length:Int))=True:=eq_true zq9
   obtain ⟨y,hy⟩:∃y,y=xs[i]:=⟨_,rfl⟩
   rw [←hy] at hc
   have HY:=zz hy
   clear hy
   cases e:hasB fr y with
   |true=>
    have HE:=zz e
    go_wp2_with ((with_reducible refine (del1_c _ _ _ HF.1 hl).mono ?_);rintro e w1 ⟨rfl,rfl⟩;rw [HE.1])
    go_ret
    exact ⟨i,rfl,rfl,.inr ⟨i,hlt,rfl,by rw [←HY.1];exact HE.1,HN.1⟩⟩
   |false=>
    have HE:=zz e
    go_wp2_with ((with_reducible refine (del1_c _ _ _ HF.1 hl).mono ?_);rintro e w1 ⟨rfl,rfl⟩;rw [HE.1])
    go_round
    case rel=>exact ⟨i+1,zq110,zq9,⟨fun j hj h=>by
     rcases Nat.lt_or_ge j i with h2|h2
     ·exact HN.1 j hj h2
     ·obtain rfl:j=i:=zq9
      rw [←HY.1];exact HE.1⟩⟩
    case measure=>simp [intOf];omega
  ·have HI:=zz (show i=xs.length by omega)
   go_wp2
   go_ret
   exact ⟨-1,rfl,rfl,.inl ⟨rfl,fun x hx=>by
    obtain ⟨j,hj,rfl⟩:=List.getElem_of_mem hx
    exact HN.1 j hj (by rw [HI.1];exact hj)⟩⟩
def kp (fr:List Int) (x:Int):Bool:= !hasB fr x
theorem zLa {α:Type} (q:α→Bool) (xs:List α) (j:Nat) (hj:j<xs.length):(xs.take (j+1)).filter q=(xs.take j).filter q++(if q xs[j]=true then [xs[j]] else []):=by
 rw [List.take_succ_eq_append_getElem hj,List.filter_append]
 congr 1
 by_cases h:q xs[j]=true
 ·rw [if_pos h,List.filter_cons_of_pos h];rfl
 ·rw [if_neg h,List.filter_cons_of_neg h];rfl
structure DelI (fr xs ys:List Int) (i j:Nat):Prop where
 len:ys.length=xs.length
 ij:i<j
 jn:j≤xs.length
 front:ys.take i=(xs.take j).filter (kp fr)
 back:ys.drop j=xs.drop j
theorem DelI.at_ {fr xs ys:List Int} {i j:Nat} (h:DelI fr xs ys i j) (hj:j<xs.length):ys[j]?=some xs[j]:=by
 have:=congrArg (fun l=>l[0]?) h.back
 simpa [List.getElem?_drop,List.getElem?_eq_getElem hj] using this
theorem DelI.skip {fr xs ys:List Int} {i j:Nat} (h:DelI fr xs ys i j) (hj:j<xs.length) (hp:hasB fr xs[j]=true):DelI fr xs ys i (j+1):=by
 refine ⟨h.len,by have:=h.ij;omega,hj,?_,?_⟩
 ·rw [zLa _ _ _ hj,h.front,if_neg (by simp [kp,hp]),List.append_nil]
 ·rw [←List.drop_drop,←List.drop_drop,h.back]
theorem DelI.keep {fr xs ys:List Int} {i j:Nat} (h:DelI fr xs ys i j) (hj:j<xs.length) (hp:hasB fr xs[j]=false):DelI fr xs (ys.set i xs[j]) (i+1) (j+1):=by
 have hij:=h.ij
 have hl:=h.len
 refine ⟨by rw [List.length_set];exact hl,zq9,hj,?_,?_⟩
 ·rw [zLa _ _ _ hj,←h.front,if_pos (by simp [kp,hp])]
  rw [List.take_succ_eq_append_getElem zq136,List.getElem_set_self,List.take_set_of_le (Nat.le_refl _)]
 ·rw [List.drop_set_of_lt zq9,←List.drop_drop,←List.drop_drop,h.back]
theorem clear_ints (w:World) (ty:TypeId) (b q n c:Nat) (hn:0<n)
  (hc:∀j,j<n→(w.cell? ⟨b,q+j,none⟩).isSome=true) (hf:∀j,j<n→w.frozen? ⟨b,q+j,none⟩=false):
  (Builtin.clear_ #[29] ty #[.slice (some ⟨b,q,none⟩) n c]).run Tryz.prog w= .ok (.tuple #[]) (w.setCells b q (List.replicate n (.int .i64 0))):=by
 have hst:=run_storeCells_cells (P:=Tryz.prog) b q (List.replicate n (.int .i64 0)) 0 w (by intro j hj;rw [List.length_replicate] at hj;simpa using hc j hj) (by intro j hj;rw [List.length_replicate] at hj;simpa using hf j hj) (by intro v hv;rw [List.eq_of_mem_replicate hv];rfl)
 simp only [Nat.add_zero] at hst
 have hz:(Builtin.zeroCells (Value.int .i64 0).cells n).toList=List.replicate n (.int .i64 0):=by
  apply List.ext_getElem?
  intro i
  simp [Builtin.zeroCells,Value.cells,List.getElem?_replicate,Nat.mod_one]
  try (by_cases h:i<n<;>simp [h])
 obtain ⟨m,rfl⟩:∃m,n=m+1:=⟨n-1,zq9⟩
 simp [Builtin.clear_,run_underlying Tryz.underlying29,Tryz.zeroValue3,hz,hst]
theorem grown_of_below {w w':World} (h:Below w.heap.size w w') (row:Option Nat):w.grownBy w' row:=⟨h.os,h.tape,h.output,h.size,fun k hk _=>h.block k hk⟩
theorem R_cut_cells {α:Type} {d:Kd α} {e base g n cap:Nat} {ok:Nat→Prop} {W:World} {ys:List α} (h:d.R e W base ok (.slice (some ⟨g,0,none⟩) n cap) ys) (i:Nat) (hi:i≤n) (seg:List Value) (hseg:i*d.sz+seg.length≤n*d.sz):
  d.R e (W.setCells g (i*d.sz) seg) base ok (.slice (some ⟨g,0,none⟩) i cap) (ys.take i)∧W.grownBy (W.setCells g (i*d.sz) seg) (some g):=by
 obtain ⟨hn,hnc,_⟩:=Kd.R_reads' h
 obtain ⟨hok,inner,ho,hr⟩:=h
 obtain ⟨ho1,ho2⟩:=ho
 rcases ho2 with ⟨hv,_⟩|⟨g',cap',cur,hv,hb,hh,hnc',hcm,hcs,ht⟩
 ·cases hv
 injection hv with ha _ hc
 injection ha with ha
 injection ha with hg
 subst hg;subst hc
 have hcap:n*d.sz≤cap*d.sz:=z9a _ hnc
 obtain ⟨cur',h3,h4,h5⟩:=zNb seg (i*d.sz) W cur hh zq9
 obtain ⟨s1,s2,s3,s4⟩:=zzb g seg (i*d.sz) W
 have hfar:∀k,k≠g→(W.setCells g (i*d.sz) seg).heap[k]?=W.heap[k]?:=fun k hk=>zJb seg _ k hk
 have hil:i*d.sz≤n*d.sz:=z9a _ hi
 have hyl:(ys.take i).length=i:=zq132
 have hinl:inner.length=n*d.sz:=by rw [hr.1,hn]
 refine ⟨⟨hok,inner.take (i*d.sz),⟨?_,.inr ⟨g,cap,cur',by rw [hyl],hb,h3,by rw [hyl];omega,hcm,by rw [h4,hcs],?_⟩⟩,?_,?_⟩,⟨s1,s2,s3,by rw [s4];exact z3a _,fun k _ hk=>hfar k (fun he=>hk (by rw [he]))⟩⟩
 ·rw [List.length_take,hyl];omega
 ·rw [hyl,h5,←ht,List.take_take,List.append_assoc,List.take_append_of_le_length (by rw [List.length_take,Array.length_toList];omega),List.take_take]
  congr 1
  rw [←hn]
  omega
 ·rw [List.length_take,hyl];omega
 ·intro j p hj
  have hjl:j<i:=by have:=(List.getElem?_eq_some_iff.1 hj).1;omega
  rw [List.getElem?_take,if_pos hjl] at hj
  have hM:=hr.2 j p hj
  have h6:j*d.sz+d.sz≤i*d.sz:=by rw [←Nat.succ_mul];exact z9a _ hjl
  rw [List.drop_take,List.take_take,Nat.min_eq_left zq9]
  refine d.M_move (fun k hk=>hfar k (fun he=>hk.2 (by subst he;simp [Value.ownBlock]))) (d.M_mono (fun k hk=>⟨hk.1,fun he=>hk.2 (by rw [he];simp [Value.ownBlock])⟩) hM)
theorem deleteFunc_c (xs fr:List Int) {A:Option Addr} {c gA base:Nat} {ok:Nat→Prop} (w:World) (hr:Kd.R (Kd.int .i64) 3 w base ok (.slice A xs.length c) xs) (hF:∀W',w.grownBy W' (Value.slice A xs.length c).ownBlock→FrAt W' gA fr) (hl:fr.length≤2000000) (hn:xs.length≤2000000):
  Calls Tryz.prog 88 #[.slice A xs.length c,.func (.func 89) #[] #[.pointer (some ⟨gA,0,none⟩)]] w fun e w'=>∃A' c',e= .returned (.slice A' (xs.filter (kp fr)).length c')∧Kd.R (Kd.int .i64) 3 w' base ok (.slice A' (xs.filter (kp fr)).length c') (xs.filter (kp fr))∧w.grownBy w' (Value.slice A xs.length c).ownBlock:=by
 have HR:=zz hr
 have HF:=zz hF
 have HF0:=zz (hF w (World.grownBy.refl _ _))
 have KX:=zz (Kd.R_reads' hr).2.2
 clear hr hF
 by_cases hany:∃x∈xs,hasB fr x=true
 ·have HA:=zz hany
  go_enter Tryz.func88,Tryz.ntmps88
  go_wp2_with fail
  ((with_reducible refine (idxf_c xs fr _ KX.1 HF0.1 hl hn).mono ?_);rintro e w1 ⟨r,rfl,rfl,hr⟩)
  obtain ⟨i0,hi0,rfl,hpi,hbef⟩:∃(i:Nat) (h:i<xs.length),r=(i:Int)∧hasB fr xs[i]=true∧∀(j:Nat) (hj:j<xs.length),j<i→hasB fr xs[j]=false:=by
   rcases hr with ⟨-,h⟩|h
   ·obtain ⟨x,hx,e⟩:=HA.1
    rw [h x hx] at e
    cases e
   ·exact h
  have HD0:Z0 (DelI fr xs xs i0 (i0+1)):=⟨⟨rfl,zq9,hi0,by
   rw [zLa _ _ _ hi0,if_neg (by simp [kp,hpi]),List.append_nil]
   refine (List.filter_eq_self.2 fun x hx=> ?_).symm
   obtain ⟨j,hj,rfl⟩:=List.getElem_of_mem hx
   rw [List.length_take] at hj
   rw [List.getElem_take]
   simp [kp,hbef j zq9 zq9],rfl⟩⟩
  obtain ⟨g,cap,hv,hbg,hgl,cells0,hcells0⟩:=Kd.R_form HR.1 zq9
  obtain ⟨rfl,rfl⟩:A=some ⟨g,0,none⟩∧c=cap:=by injection hv with h1 _ h3;exact ⟨h1,h3⟩
  clear hany hpi hbef hv hcells0 hbg hgl hr
  have he1:((i0:Int)== -1)=false:=by
   cases h:((i0:Int)== -1)
   ·rfl
   ·have:=beq_iff_eq.1 h;omega
  have G1:=zz (World.grownBy.refl w (some g))
  go_wp2
  go_loopg [5,6] xs.length (fun gg s5 s6 wr=>∃(i j:Nat) (ys:List Int),xs.length-j≤gg∧s5= .int .i64 i∧s6= .int .i64 j∧Z0 (DelI fr xs ys i j)∧Z0 (Kd.R (Kd.int .i64) 3 wr base ok (.slice (some ⟨g,0,none⟩) xs.length c) ys)∧Z0 (w.grownBy wr (some g)))
  case atStart=>exact ⟨i0,i0+1,xs,zq9,rfl,zq110,HD0,HR,G1⟩
  case round=>
   clear G1 HD0 he1
   obtain ⟨i,j,ys,hg,rfl,rfl,D,RY,GY⟩:=hrel
   have hij:=D.1.ij
   have hjn:=D.1.jn
   by_cases hlt:j<xs.length
   ·have c1:decide ((j:Int)<(xs.length:Int))=true:=z6 zq9
    have c3:((0:Int)≤(j:Int))=True:=eq_true zq9
    have c2:((j:Int)<(xs.length:Int))=True:=eq_true zq9
    have c4:((0:Int)≤(i:Int))=True:=eq_true zq9
    have c5:((i:Int)<(xs.length:Int))=True:=eq_true zq9
    obtain ⟨x,hx⟩:∃x,xs[j]=x:=⟨_,rfl⟩
    have hcx:wr.cell? ⟨g,j,none⟩=some (.int .i64 x):=by
     have h:=(Kd.R_celln 0 RY.1 (j:Int) zq9 zq9).1
     rw [Int.toNat_natCast] at h
     rw [h]
     simp [zcc,List.getD_eq_getElem?_getD,D.1.at_ hlt,hx]
    obtain ⟨z,hz⟩:∃z,z=zcc 0 ys (i:Int):=⟨_,rfl⟩
    have hci:wr.cell? ⟨g,i,none⟩=some (.int .i64 z):=by
     have h:=(Kd.R_celln 0 RY.1 (i:Int) zq9 zq9).1
     rwa [Int.toNat_natCast,←hz] at h
    have hfi:wr.frozen? ⟨g,i,none⟩=false:=by
     have h:=(Kd.R_celln 0 RY.1 (i:Int) zq9 zq9).2
     rwa [Int.toNat_natCast] at h
    have HX:=zz hx
    have HFW:=zz (HF.1 wr GY.1)
    clear hx hz
    cases hpx:hasB fr x with
    |true=>
     have HPX:=zz hpx
     clear hpx
     go_wp2_with ((with_reducible refine (del1_c _ _ _ HFW.1 hl).mono ?_);rintro e w1 ⟨rfl,rfl⟩;rw [HPX.1])
     go_roundg (xs.length-(j+1))
     case measure=>omega
     case rel=>exact ⟨i,j+1,ys,zq9,rfl,zq110,⟨D.1.skip hlt (by rw [HX.1];exact HPX.1)⟩,RY,GY⟩
    |false=>
     have HPX:=zz hpx
     have HP3:=zz (Kd.R_putg RY.1 (i:Int) x)
     clear hpx
     go_wp2_with ((with_reducible refine (del1_c _ _ _ HFW.1 hl).mono ?_);rintro e w1 ⟨rfl,rfl⟩;rw [HPX.1])
     go_roundg (xs.length-(j+1))
     case measure=>omega
     case rel=>exact ⟨i+1,j+1,ys.set i x,zq9,zq110,zq110,⟨by have:=D.1.keep hlt (by rw [HX.1];exact HPX.1);rwa [HX.1] at this⟩,⟨HP3.1.1⟩,⟨World.grownBy.trans GY.1 HP3.1.2⟩⟩
   ·obtain rfl:j=xs.length:=zq9
    have HFr:=zz D.1.front
    rw [List.take_length] at HFr
    have hyl:=D.1.len
    have hcn:xs.length≤c:=(Kd.R_reads' HR.1).2.1
    obtain ⟨i1,hi1,hz1⟩:=Option.map_eq_some_iff.1 info3
    simp only [Prod.mk.injEq] at hz1
    have hcut:=cut_from (P:=Tryz.prog) 29 3 .i64 Tryz.underlying29 hi1 1 hz1.2.1 (some ⟨g,0,none⟩) xs.length c (i:Int) zq9 zq9
    simp only [Int.toNat_natCast,if_neg (show ¬c=i by omega),Option.map_some,add_plain,Nat.mul_one] at hcut
    have hcut2:=cut_to (P:=Tryz.prog) 29 3 .i64 Tryz.underlying29 hi1 (some ⟨g,0,none⟩) xs.length c (i:Int) zq9 zq9 hcn
    simp only [Int.toNat_natCast] at hcut2
    have hel:∀q,q<xs.length-i→(wr.cell? ⟨g,i+q,none⟩).isSome=true∧wr.frozen? ⟨g,i+q,none⟩=false:=fun q hq=>by
     have h:=Kd.R_celln 0 RY.1 ((i+q:Nat):Int) zq9 zq9
     rw [Int.toNat_natCast] at h
     exact ⟨by rw [h.1];rfl,h.2⟩
    have hclr:=fun ty=>clear_ints wr ty g i (xs.length-i) (c-i) zq9 (fun q hq=>(hel q hq).1) (fun q hq=>(hel q hq).2)
    have HCC:=zz (R_cut_cells RY.1 i zq9 (List.replicate (xs.length-i) (.int .i64 0)) (by rw [List.length_replicate];show i*1+_≤xs.length*1;omega))
    have HLF:Z0 ((xs.filter (kp fr)).length=i):=⟨by rw [←HFr.1,List.length_take];omega⟩
    have c1:decide ((xs.length:Int)<(xs.length:Int))=false:=z7 zq9
    clear hel hi1 hz1 hyl
    go_wp2
    go_ret
    exact ⟨some ⟨g,0,none⟩,c,by rw [HLF.1];rfl,by rw [HLF.1,←HFr.1];have h:=HCC.1.1;rwa [show i*(Kd.int .i64).sz=i from Nat.mul_one i] at h,World.grownBy.trans GY.1 (by have h:=HCC.1.2;rwa [show i*(Kd.int .i64).sz=i from Nat.mul_one i] at h)⟩
 ·have hfe:xs.filter (kp fr)=xs:=List.filter_eq_self.2 fun x hx=>by
   cases h:hasB fr x
   ·simp [kp,h]
   ·exact absurd ⟨x,hx,h⟩ hany
  have HFE:=zz hfe
  have HA:=zz hany
  clear hfe hany
  go_enter Tryz.func88,Tryz.ntmps88
  go_wp2_with fail
  ((with_reducible refine (idxf_c xs fr _ KX.1 HF0.1 hl hn).mono ?_);rintro e w1 ⟨r,rfl,rfl,hr⟩)
  obtain rfl:r= -1:=by
   rcases hr with ⟨h,-⟩|⟨i,hi,-,h,-⟩
   ·exact h
   ·exact absurd ⟨_,List.getElem_mem hi,h⟩ HA.1
  clear hr
  go_wp2
  go_ret
  exact ⟨A,c,by rw [HFE.1];rfl,by rw [HFE.1];exact HR.1,World.grownBy.refl _ _⟩
def srt (l:List Int):List Int:=l.mergeSort fun x y=>decide (x≤y)
theorem srt_len (l:List Int):(srt l).length=l.length:=List.length_mergeSort _
theorem srt_perm (l:List Int):(srt l).Perm l:=List.mergeSort_perm _ _
theorem srt_sorted (l:List Int):(srt l).Pairwise (·≤·):=by
 have:=List.pairwise_mergeSort (le:=fun x y:Int=>decide (x≤y)) (by intro a b c;simp;omega) (by intro a b;simp;omega) l
 simpa [srt] using this
theorem sorted_unique:∀(a b:List Int),a.Pairwise (·≤·)→b.Pairwise (·≤·)→a.Perm b→a=b
 |[],b,_,_,h=>(List.nil_perm.1 h).symm
 |x::a,[],_,_,h=>absurd (List.perm_nil.1 h) zq38
 |x::a,y::b,ha,hb,h=>by
  have h1:y≤x:=by
   rcases List.mem_cons.1 (h.mem_iff.1 (List.mem_cons_self)) with e|e
   ·omega
   ·exact (List.pairwise_cons.1 hb).1 x e
  have h2:x≤y:=by
   rcases List.mem_cons.1 (h.mem_iff.2 (List.mem_cons_self)) with e|e
   ·omega
   ·exact (List.pairwise_cons.1 ha).1 y e
  have e:x=y:=zq9
  subst e
  rw [sorted_unique a b (List.pairwise_cons.1 ha).2 (List.pairwise_cons.1 hb).2 (List.perm_cons _|>.1 h)]
theorem srt_eq {l s:List Int} (hs:s.Pairwise (·≤·)) (hp:s.Perm l):s=srt l:=sorted_unique s (srt l) hs (srt_sorted l) (hp.trans (srt_perm l).symm)
def SortI (ys:List Int) (m:Nat):Prop:=∀a b,a<b→b<m→ys.getD a 0≤ys.getD b 0
def InsI (ys:List Int) (i k:Nat):Prop:=k≤i∧(∀a b,a<b→b≤i→a≠k→b≠k→ys.getD a 0≤ys.getD b 0)∧∀b,k<b→b≤i→ys.getD k 0≤ys.getD b 0
theorem ins_start {ys:List Int} {i:Nat} (h:SortI ys i):InsI ys i i:=⟨z3a _,fun a b h1 h2 h3 h4=>h a b h1 zq9,fun b h1 h2=>by omega⟩
theorem ins_done {ys:List Int} {i k:Nat} (h:InsI ys i k) (hk:k=0∨ys.getD (k-1) 0≤ys.getD k 0):SortI ys (i+1):=by
 intro a b h1 h2
 obtain ⟨h0,ha,hb⟩:=h
 by_cases e1:a=k
 ·subst e1;exact hb b h1 zq9
 ·by_cases e2:b=k
  ·subst e2
   rcases hk with hk|hk
   ·omega
   ·by_cases e3:a=b-1
    ·subst e3;exact hk
    ·exact Int.le_trans (ha a (b-1) zq9 zq9 zq9 zq9) hk
  ·exact ha a b h1 zq9 e1 e2
theorem getD_set (ys:List Int) (k j:Nat) (u:Int) (hk:k<ys.length):(ys.set k u).getD j 0=if j=k then u else ys.getD j 0:=by
 by_cases h:j=k
 ·subst h;simp [List.getD_eq_getElem?_getD,List.getElem?_set,hk]
 ·rw [if_neg h];simp [List.getD_eq_getElem?_getD,List.getElem?_set,Ne.symm h]
theorem ins_swap {ys:List Int} {i k m:Nat} (h:InsI ys i k) (hm:k=m+1) (hk:k<ys.length) (hgt:ys.getD k 0<ys.getD m 0):InsI ((ys.set k (ys.getD m 0)).set m (ys.getD k 0)) i m:=by
 obtain ⟨h0,ha,hb⟩:=h
 have hg:∀j,((ys.set k (ys.getD m 0)).set m (ys.getD k 0)).getD j 0=if j=m then ys.getD k 0 else if j=k then ys.getD m 0 else ys.getD j 0:=fun j=>by
  rw [getD_set _ _ _ _ zq136,getD_set _ _ _ _ hk]
 refine ⟨zq9,fun a b h1 h2 h3 h4=> ?_,fun b h1 h2=> ?_⟩
 ·rw [hg,hg,if_neg h3,if_neg h4]
  by_cases e1:a=k
  ·rw [if_pos e1,if_neg zq9]
   exact ha m b zq9 h2 zq9 zq9
  ·rw [if_neg e1]
   by_cases e2:b=k
   ·rw [if_pos e2]
    exact ha a m zq9 zq9 e1 zq9
   ·rw [if_neg e2]
    exact ha a b h1 h2 e1 e2
 ·rw [hg,hg,if_pos rfl,if_neg zq9]
  by_cases e2:b=k
  ·rw [if_pos e2];omega
  ·rw [if_neg e2]
   exact hb b zq9 h2
theorem swap_perm {ys:List Int} {k m:Nat} (hm:m<ys.length) (hk:k<ys.length):((ys.set k (ys.getD m 0)).set m (ys.getD k 0)).Perm ys:=by
 have h:= @List.set_set_perm _ ys k m hk hm
 rwa [List.getD_eq_getElem?_getD,List.getD_eq_getElem?_getD,List.getElem?_eq_getElem hk,List.getElem?_eq_getElem hm]
theorem srt_of {ys xs:List Int} (hp:ys.Perm xs) (hs:SortI ys ys.length):ys=srt xs:=srt_eq (List.pairwise_iff_getElem.2 fun a b ha hb h=>by
 have:=hs a b h hb
 rwa [List.getD_eq_getElem?_getD,List.getD_eq_getElem?_getD,List.getElem?_eq_getElem ha,List.getElem?_eq_getElem hb] at this) hp
theorem l07Sorted_calls (A:Option Addr) (c:Nat) (xs:List Int) (w:World) (hr:Kd.C (Kd.int .i64) w A xs.length xs) (hlen:xs.length≤4000000):
  Calls Tryz.prog 79 #[.slice A xs.length c] w fun e w'=>∃B d,e= .returned (.slice B xs.length d)∧Kd.R (Kd.int .i64) 3 w' w.heap.size (fun _=>True) (.slice B xs.length d) (srt xs)∧Below w.heap.size w w':=by
 have HR:=zz hr
 have HL:=zz hlen
 clear hr hlen
 go_enter Tryz.func79,Tryz.ntmps79
 go_wp2_with (((with_reducible refine zea (b:= .append) (xs:= #[.tmp 7,.tmp 8]) rfl ?_);at_builtin;refine Kd.R_append_rows (Kd.int .i64) (w0:=w) (Rr:=Kd.K (Kd.int .i64) (w.alloc (.cells #[] 3))) w.heap.size rfl (.tmp 7) (.tmp 8) 29 3 (.int .i64 0) 8 rfl Tryz.underlying29 info3 rfl zq31 zq31 (.slice (some ⟨w.heap.size,0,none⟩) 0 0) [] xs A xs.length c (fun _=>True) (fun _=>False) rfl rfl ⟨fun _ _=>trivial,[],World.ownsRow_made w #[] 0 (z3a _) zq31 zq38,Reps.none _ _⟩ (Kd.C_below HR.1 (zo (z1a _ _) _)) (fun _ _ hk=>hk) (fun _ hk=>hk.elim) (fun _ _=>trivial) (zo (z1a _ _) _) zq38 zq129 ?_;intro v1 w1 hR hB _ _;rw [List.nil_append] at hR;have R1:=zz hR;have B1:=zz hB;obtain ⟨B,d,rfl⟩:=Kd.R_slice hR;clear hR hB))
 go_loopg [4] xs.length (fun gg s4 wr=>∃(i:Nat) (ys:List Int),1≤i∧(i≤xs.length∨i=1)∧xs.length-i≤gg∧s4= .int .i64 i∧Z0 (Kd.R (Kd.int .i64) 3 wr w.heap.size (fun _=>True) (.slice B xs.length d) ys)∧Z0 (ys.Perm xs∧SortI ys i)∧Z0 (Below w.heap.size w wr))
 case atStart=>exact ⟨1,xs,zq9,.inr rfl,zq9,rfl,R1,⟨List.Perm.refl _,fun a b h1 h2=>by omega⟩,B1⟩
 case round=>
  clear R1 B1
  obtain ⟨i,ys,h1,h2,hg,rfl,RY,HQ,HB⟩:=hrel
  by_cases hlt:i<xs.length
  ·have hltz:(i:Int)<(xs.length:Int):=zq9
   obtain ⟨g,cap,hv,hbg,hgl,_⟩:=Kd.R_form RY.1 (by have:=HQ.1.1.length_eq;omega)
   obtain rfl:B=some ⟨g,0,none⟩:=by injection hv
   have HG:=zz hbg
   have HI:=zz (And.intro h1 hlt)
   clear hv hbg hgl h2
   go_wp2
   go_loopg [5] xs.length (fun gg s5 wq=>∃(k:Nat) (zs:List Int),k≤gg∧k≤i∧s5= .int .i64 k∧Z0 (Kd.R (Kd.int .i64) 3 wq w.heap.size (fun _=>True) (.slice (some ⟨g,0,none⟩) xs.length d) zs)∧Z0 (zs.Perm xs∧InsI zs i k)∧Z0 (Below w.heap.size w wq))
   case atStart=>exact ⟨i,ys,zq9,z3a _,rfl,RY,⟨HQ.1.1,ins_start HQ.1.2⟩,HB⟩
   case round=>
    clear RY HQ HB
    obtain ⟨k,zs,hk1,hk2,rfl,RZ,HZ,HB⟩:=hrel
    have HN:=zz HZ.1.1.length_eq
    by_cases hk0:0<k
    ·obtain ⟨m,hm⟩:∃m,k=m+1:=⟨k-1,zq9⟩
     have hmz:(m:Int)<(xs.length:Int):=zq9
     have hkz:(k:Int)<(xs.length:Int):=zq9
     have hck:wr.cell? ⟨g,k,none⟩=some (.int .i64 (zs.getD k 0)):=(Kd.R_celln 0 RZ.1 (k:Int) zq9 hkz).1
     have hcm:wr.cell? ⟨g,m,none⟩=some (.int .i64 (zs.getD m 0)):=(Kd.R_celln 0 RZ.1 (m:Int) zq9 hmz).1
     obtain ⟨y2,hy2⟩:∃y,zs.getD k 0=y:=⟨_,rfl⟩
     obtain ⟨y1,hy1⟩:∃y,zs.getD m 0=y:=⟨_,rfl⟩
     rw [hy2] at hck
     rw [hy1] at hcm
     have HY:=zz (And.intro hy2 hy1)
     have HM:=zz hm
     have hw1:wrap64 ((k:Int)-1)=(m:Int):=by have:=HL.1;unfold wrap64;omega
     have hw2:IntKind.i64.wrap ((k:Int)-1)=(m:Int):=(zKa _).trans hw1
     have hk0z:(0:Int)<(k:Int):=zq9
     have hfk:wr.frozen? ⟨g,k,none⟩=false:=(Kd.R_celln 0 RZ.1 (k:Int) zq9 hkz).2
     have hfm:wr.frozen? ⟨g,m,none⟩=false:=(Kd.R_celln 0 RZ.1 (m:Int) zq9 hmz).2
     have hne:m≠k:=zq9
     clear hy1 hy2 hm
     by_cases hgt:y2<y1
     ·have hgb:=z6 hgt
      go_wp2
      repeat (go_quiet (fail);try go_wp2)
      clear hw1 hw2
      go_roundg m
      case measure=>have:=HM.1;omega
      case rel=>exact ⟨m,(zs.set k y1).set m y2,z3a _,by have:=HM.1;omega,rfl,⟨(Kd.R_putg (Kd.R_putg (Kd.R_drewN RZ.1 _) (k:Int) y1).1 (m:Int) y2).1⟩,⟨by
        have h:=swap_perm (ys:=zs) (k:=k) (m:=m) (by rw [HN.1];have:=HM.1;have:=HI.1.2;omega) (by rw [HN.1];have:=HI.1.2;omega)
        rw [HY.1.1,HY.1.2] at h
        exact h.trans HZ.1.1,by
        have h:=ins_swap HZ.1.2 HM.1 (by rw [HN.1];have:=HI.1.2;omega) (by rw [HY.1.1,HY.1.2];exact hgt)
        rwa [HY.1.1,HY.1.2] at h⟩,⟨zZ (zZ (zO HB.1 _) HG.1) HG.1⟩⟩
     ·have hgb:=z7 hgt
      go_wp2
      repeat (go_quiet (fail);try go_wp2)
      clear hw1 hw2
      have HV:=zz (show InsI zs i k∧(k=0∨zs.getD (k-1) 0≤zs.getD k 0) from ⟨HZ.1.2,.inr (by rw [HY.1.1,show k-1=m by have:=HM.1;omega,HY.1.2];omega)⟩)
      exact zq192
    ·obtain rfl:k=0:=zq9
     go_wp2
     repeat (go_quiet (fail);try go_wp2)
     have HV:=zz (show InsI zs i 0∧(0=0∨zs.getD (0-1) 0≤zs.getD 0 0) from ⟨HZ.1.2,.inl rfl⟩)
     exact zq192
  ·have hltz:¬(i:Int)<(xs.length:Int):=zq9
   have he:ys=srt xs:=srt_of HQ.1.1 (fun a b ha hb=>HQ.1.2 a b ha (by have:=HQ.1.1.length_eq;omega))
   have HE:=zz he
   clear he
   go_wp2
   go_ret
   exact ⟨B,d,rfl,by rw [←HE.1];exact RY.1,HB.1⟩
def nmF (fr:List Int) (fs:List S112):List S112:=(fs.map (fun f=>(⟨f.f0,f.f1.filter (kp fr)⟩:S112))).filter (fun f=>decide (0<f.f1.length))
def nmOwn (nx:Int) (us gone:List Int):List Int:=srt (gone++us.filter (fun p=>decide (nx≤p)))
def nmM (tx rt nx:Int) (x:S40) (us gone fr:List Int):S40:=⟨tx,rt,nx,nmF fr x.f3++(if 0<(nmOwn x.f2 us gone).length then [(⟨tx,nmOwn x.f2 us gone⟩:S112)] else [])⟩
theorem nmF_succ (fr:List Int) {fs:List S112} {i:Nat} {f:S112} (h:fs[i]?=some f):nmF fr (fs.take (i+1))=nmF fr (fs.take i)++(if 0<(f.f1.filter (kp fr)).length then [(⟨f.f0,f.f1.filter (kp fr)⟩:S112)] else []):=by
 obtain ⟨hi,rfl⟩:=List.getElem?_eq_some_iff.1 h
 unfold nmF
 rw [List.take_succ_eq_append_getElem hi,List.map_append,List.filter_append]
 congr 1
 by_cases h:0<(fs[i].f1.filter (kp fr)).length
 ·rw [if_pos h];simp [h]
 ·rw [if_neg h];simp [h]
theorem nmF_len (fr:List Int) (fs:List S112):(nmF fr fs).length≤fs.length:=by
 unfold nmF
 exact z5a (List.length_filter_le _ _) zq38
structure NB (w w':World) (cs:List Value) (g:Nat) (m3:List Value) (v:Value):Prop where
 A:w'.heap[w.heap.size]?=some (.cells cs.toArray 46 (0,0))
 R:w'.heap[w.heap.size+1]?=some (.cells ([.int .i64 0,.int .i64 0,.int .i64 0,.slice none 0 0]:List Value).toArray 40 (0,0))
 B:w'.heap[g]?=some (.cells (m3++([v]++[])).toArray 40 (0,0))
 bel:Below w.heap.size w w'
 hg:w.heap.size+1<g
theorem NB.step {w w' w2:World} {cs m3:List Value} {g:Nat} {v:Value} (h:NB w w' cs g m3 v) (hb:Below w'.heap.size w' w2):NB w w2 cs g m3 v:=⟨zg h.A hb,zg h.R hb,zg h.B hb,ze h.bel hb,h.hg⟩
theorem NB.grown {w w' w2:World} {cs m3:List Value} {g:Nat} {v:Value} (h:NB w w' cs g m3 v) {row:Option Nat} (hg:w'.grownBy w2 row) (hr:∀k,row=some k→g<k):NB w w2 cs g m3 v:=by
 have:=h.hg
 have:=zP h.B
 exact ⟨zK h.A hg (fun e=>by have:=hr _ e.symm;omega),zK h.R hg (fun e=>by have:=hr _ e.symm;omega),zK h.B hg (fun e=>by have:=hr _ e.symm;omega),h.bel.grown hg h.bel.size (fun k hk=>by have:=hr k hk;omega),h.hg⟩
theorem NB.put {w w' w2:World} {cs m3:List Value} {g:Nat} {v v1:Value} (h:NB w w' cs g m3 v) (hp:Put1 w' w2 g) (hn:w2.heap[g]?=some (.cells (m3++([v1]++[])).toArray 40 (0,0))):NB w w2 cs g m3 v1:=by
 have:=h.hg
 exact ⟨zTa h.A hp zq9,zTa h.R hp zq9,hn,hp.below w zq9 h.bel,h.hg⟩
section
variable {ops:Array Oper} {rest:List Oper} {o:Oper} {a:Act} {Q:Exit→Act→World→Prop} {w W:World} {cs m3:List Value} {g:Nat} {v:Value}
theorem nm_app {fs:List S112} {p:S112} {u:Value} {okp:Nat→Prop} (hgd:o.guard=none) (s y:Operand) (ho:o.op= .call {callee:= .builtin .append,args:= #[s,y],argTypes:= #[38,38]}) (hs:a.eval s=v) (hy:a.eval y= .slice (some ⟨W.heap.size,0,none⟩) 1 1)
  (HN:NB w W cs g m3 v) (HS:Kd.S k112 112 W w.heap.size (fun k=>g<k∧¬okp k) v fs) (hp:k112.M W w.heap.size okp p [.int .i64 p.f0,u]) (hokp:∀k,okp k→g<k) (hl:fs.length≤2000000)
  (h:∀v1 w1,Z0 (NB w w1 cs g m3 v)→Z0 (Kd.S k112 112 w1 w.heap.size (fun k=>g<k) v1 (fs++[p]))→wpList Tryz.prog ops Q rest (a.put o.dst v1) w1):
  wpList Tryz.prog ops Q (o::rest) a (W.alloc (.cells #[.int .i64 p.f0,u] 112)):=by
 have hown:∀k,v.ownBlock=some k→g<k∧¬okp k:=HS.choose_spec.1
 refine Kd.S_append k112 (w0:=w) w.heap.size hgd s y 38 112 (.agg #[.int .i64 0,.slice none 0 0]) 32 ho Tryz.underlying38 info112 rfl zq31 zq31 v fs p [.int .i64 p.f0,u] (fun k=>g<k) okp hs hy hp (fun k hk=>⟨hokp k hk,fun e=>(hown k e.symm).2 hk⟩) (fun k hk=>z4a (zP HN.B) hk) HS HN.bel HN.bel.size zq9 ?_
 intro v1 w1 hr hb hg hat
 exact h v1 w1 ⟨HN.grown hg (fun k hk=>(hown k hk).1)⟩ ⟨hr⟩
theorem own_app {fs:List S112} {xs:List Int} {p:Int} {vo:Value} {T:Nat} (hgd:o.guard=none) (s y:Operand) (ho:o.op= .call {callee:= .builtin .append,args:= #[s,y],argTypes:= #[29,29]}) (hs:a.eval s=vo) (hy:a.eval y= .slice (some ⟨W.heap.size,0,none⟩) 1 1)
  (HN:NB w W cs g m3 v) (HS:Kd.S k112 112 W w.heap.size (fun k=>g<k∧k<T) v fs) (HO:Kd.R (Kd.int .i64) 3 W w.heap.size (fun k=>T≤k) vo xs) (hT:T≤W.heap.size∧g<T) (hl:xs.length≤4000000)
  (h:∀v1 w1,Z0 (NB w w1 cs g m3 v)→Z0 (Kd.S k112 112 w1 w.heap.size (fun k=>g<k∧k<T) v fs)→Z0 (Kd.R (Kd.int .i64) 3 w1 w.heap.size (fun k=>T≤k) v1 (xs++[p]))→Z0 (T≤w1.heap.size)→wpList Tryz.prog ops Q rest (a.put o.dst v1) w1):
  wpList Tryz.prog ops Q (o::rest) a (W.alloc (.cells #[.int .i64 p] 3)):=by
 refine Kd.R_append (Kd.int .i64) (w0:=w) w.heap.size hgd s y 29 3 (.int .i64 0) 8 ho Tryz.underlying29 info3 rfl zq31 zq31 vo xs p [.int .i64 p] (fun k=>T≤k) (fun _=>False) hs hy rfl (fun _ h=>h.elim) (fun k hk=>z5a hT.1 hk) HO HN.bel HN.bel.size zq9 ?_
 intro v1 w1 hr hb hg hat
 have hown:∀k,vo.ownBlock=some k→T≤k:=HO.1
 exact h v1 w1 ⟨HN.grown hg (fun k hk=>by have:=hown k hk;omega)⟩ ⟨Kd.S_grown HS hg (fun k hk e=>by have:=hown k e.symm;have:=hk.2;omega)⟩ ⟨hr⟩ ⟨z5a hT.1 hg.size⟩
end
theorem NB.other {w w' w2:World} {cs m3:List Value} {g gF:Nat} {v:Value} (h:NB w w' cs g m3 v) (hp:Put1 w' w2 gF) (hF:g<gF):NB w w2 cs g m3 v:=by
 have:=h.hg
 exact ⟨zTa h.A hp zq9,zTa h.R hp zq9,zTa h.B hp zq9,hp.below w zq9 h.bel,h.hg⟩
theorem R_put1 {W W2:World} {gF base e:Nat} {α:Type} {d:Kd α} {ok:Nat→Prop} {v:Value} {xs:List α} (h:Kd.R d e W base ok v xs) (hp:Put1 W W2 gF) (ho:∀k,ok k→k≠gF):Kd.R d e W2 base ok v xs:=Kd.R_step h (fun k hk hlt=>hp.kept.2 k hlt (ho k hk))
theorem fb_app {ops:Array Oper} {rest:List Oper} {o:Oper} {a:Act} {Q:Exit→Act→World→Prop} {w W:World} {cs m3 cf:List Value} {g gF t:Nat} {v vo:Value} {fs:List S112} {xs:List Int} {p:Int} (hgd:o.guard=none) (s y:Operand) (ho:o.op= .call {callee:= .builtin .append,args:= #[s,y],argTypes:= #[29,29]}) (hs:a.eval s=vo) (hy:a.eval y= .slice (some ⟨W.heap.size,0,none⟩) 1 1)
  (HN:NB w W cs g m3 v) (HS:Kd.S k112 112 W w.heap.size (fun k=>g<k∧k<gF) v fs) (BF:W.heap[gF]?=some (.cells cf.toArray t (0,0))) (HO:Kd.R (Kd.int .i64) 3 W w.heap.size (fun k=>gF<k) vo xs) (hG:g<gF) (hl:xs.length≤4000000)
  (h:∀v1 w1,Z0 (NB w w1 cs g m3 v)→Z0 (Kd.S k112 112 w1 w.heap.size (fun k=>g<k∧k<gF) v fs)→Z0 (w1.heap[gF]?=some (.cells cf.toArray t (0,0)))→Z0 (Kd.R (Kd.int .i64) 3 w1 w.heap.size (fun k=>gF<k) v1 (xs++[p]))→wpList Tryz.prog ops Q rest (a.put o.dst v1) w1):
  wpList Tryz.prog ops Q (o::rest) a (W.alloc (.cells #[.int .i64 p] 3)):=by
 refine Kd.R_append (Kd.int .i64) (w0:=w) w.heap.size hgd s y 29 3 (.int .i64 0) 8 ho Tryz.underlying29 info3 rfl zq31 zq31 vo xs p [.int .i64 p] (fun k=>gF<k) (fun _=>False) hs hy rfl (fun _ h=>h.elim) (fun k hk=>z4a (zP BF) hk) HO HN.bel HN.bel.size zq9 ?_
 intro v1 w1 hr hb hg hat
 have hown:∀k,vo.ownBlock=some k→gF<k:=HO.1
 exact h v1 w1 ⟨HN.grown hg (fun k hk=>by have:=hown k hk;omega)⟩ ⟨Kd.S_grown HS hg (fun k hk e=>by have:=hown k e.symm;have:=hk.2;omega)⟩ ⟨zK BF hg (fun e=>by have:=hown _ e.symm;omega)⟩ ⟨hr⟩
theorem fl_succ (fr:List Int) {ps:List Int} {j:Nat} {p:Int} (h:ps[j]?=some p):(ps.take (j+1)).filter (kp fr)=(ps.take j).filter (kp fr)++(if hasB fr p=true then [] else [p]):=by
 obtain ⟨hi,rfl⟩:=List.getElem?_eq_some_iff.1 h
 rw [zLa _ _ _ hi]
 congr 1
 by_cases h:hasB fr ps[j]=true
 ·rw [if_pos h,if_neg (by simp [kp,h])]
 ·rw [if_neg h,if_pos (by simp [kp,h])]
theorem own_succ (nx:Int) {gone us:List Int} {j:Nat} {p:Int} (h:us[j]?=some p):gone++(us.take (j+1)).filter (fun p=>decide (nx≤p))=(gone++(us.take j).filter (fun p=>decide (nx≤p)))++(if nx≤p then [p] else []):=by
 obtain ⟨hi,rfl⟩:=List.getElem?_eq_some_iff.1 h
 rw [zLa _ _ _ hi,List.append_assoc]
 congr 1
 congr 1
 by_cases h:nx≤us[j]<;>simp [h]
theorem R_ints {W:World} {base:Nat} {ok ok':Nat→Prop} {v:Value} {xs:List Int} (h:Kd.R (Kd.int .i64) 3 W base ok v xs) (ho:∀k,v.ownBlock=some k→ok' k):Kd.R (Kd.int .i64) 3 W base ok' v xs:=Kd.R_of_own (enc:=Value.int .i64) (h1:=fun _=>rfl) (Kd.own_of_R h) ho
theorem nb0 (w:World) (cs m3:List Value):NB w (((w.alloc (.cells cs.toArray 46)).alloc (.cells ([.int .i64 0,.int .i64 0,.int .i64 0,.slice none 0 0]:List Value).toArray 40)).alloc (.cells (m3++([Value.slice none 0 0]++[])).toArray 40)) cs (w.heap.size+1+1) m3 (.slice none 0 0):=by
 refine ⟨zh (zh (zqa w _) _) _,?_,?_,zo (zo (zo (z1a _ _) _) _) _,zq9⟩
 ·have h:=zqa (w.alloc (.cells cs.toArray 46)) (.cells ([.int .i64 0,.int .i64 0,.int .i64 0,.slice none 0 0]:List Value).toArray 40)
  rw [show (w.alloc (.cells cs.toArray 46)).heap.size=w.heap.size+1 by simp] at h
  exact zh h _
 ·have h:=zqa ((w.alloc (.cells cs.toArray 46)).alloc (.cells ([.int .i64 0,.int .i64 0,.int .i64 0,.slice none 0 0]:List Value).toArray 40)) (.cells (m3++([Value.slice none 0 0]++[])).toArray 40)
  rwa [show ((w.alloc (.cells cs.toArray 46)).alloc (.cells ([.int .i64 0,.int .i64 0,.int .i64 0,.slice none 0 0]:List Value).toArray 40)).heap.size=w.heap.size+1+1 by simp] at h
theorem NB.fr {w w':World} {cs m3:List Value} {g:Nat} {v:Value} (h:NB w w' cs g m3 v) {fr:List Int} {AF:Option Addr} {cF:Nat} (h9:cs[9]?=some (.slice AF fr.length cF)) (KF:Kd.C (Kd.int .i64) w AF fr.length fr) {row:Option Nat} (hr:∀k,row=some k→g<k):∀W',w'.grownBy W' row→FrAt W' w.heap.size fr:=
 fun W' hg=>⟨cs,AF,cF,(h.grown hg hr).A,h9,Kd.C_below KF (h.grown hg hr).bel⟩
section
variable {P:Program} {ops:Array Oper} {Q:Exit→Act→World→Prop} {G:Act→World→Prop} {N:Option Tmp} {o:Oper} {a:Act} {w W:World} {cs m3:List Value} {g:Nat} {v:Value}
theorem ev1_lit0g (hN:o.dst=N) (hw:Region.wanted o (yielded ops a.tmps)=true) (t e:TypeId) (hop:o.op= .buildSlice t 0 #[]) (hu:P.underlying t=some (.slice e)) (sz:Nat) (hs:(sizeOf e).run P W= .ok sz W)
  (h:G (a.put N (.slice (some ⟨W.heap.size,0,none⟩) 0 0)) (W.alloc (.cells #[] e))):Ev1 P o ops Q a W G:=by
 intro K hK
 subst hN
 rw [if_pos hw]
 have hz:(Array.range (0*sz)).map ((#[]:Array Value)[·%(#[]:Array Value).size]!)= #[]:=zq38
 have hle:¬0*sz>2^24:=zq38
 have h0:0*sz=0:=zq38
 have hr:Array.range 0= #[]:=rfl
 unfold Oper.wp execOp
 simp only [hop,Instr.buildSlice,Sem.run_bind,run_underlying hu,hs,Result.andThen_ok,List.map_toArray,List.map_nil,if_neg hle,h0,if_true,Instr.fill,Sem.run_pure,newRow,Sem.run_map,Functor.map,hr,Array.map_empty]
 exact hK.out _ _ h
theorem ev1_approw_i {fs:List S112} {ys:List Int} {A:Option Addr} {m c T:Nat} {vo:Value} (hN:o.dst=N) (hw:Region.wanted o (yielded ops a.tmps)=true) (s y:Operand) (ho:o.op= .call {callee:= .builtin .append,args:= #[s,y],argTypes:= #[29,29]}) (hs:a.eval s=vo) (hy:a.eval y= .slice A m c)
  (HN:NB w W cs g m3 v) (HS:Kd.S k112 112 W w.heap.size (fun k=>g<k∧k<T) v fs) (HO:Kd.R (Kd.int .i64) 3 W w.heap.size (fun k=>T≤k) vo []) (KC:Kd.C (Kd.int .i64) W A m ys) (hT:T≤W.heap.size∧g<T) (hl:m≤2000000)
  (h:∀v1 w1,Z0 (NB w w1 cs g m3 v)→Z0 (Kd.S k112 112 w1 w.heap.size (fun k=>g<k∧k<T) v fs)→Z0 (Kd.R (Kd.int .i64) 3 w1 w.heap.size (fun k=>T≤k) v1 ys)→Z0 (W.heap.size≤w1.heap.size)→Z0 (∀(b t:Nat) (cells:List Value),t≠3→W.heap[b]?=some (.cells cells.toArray t (0,0))→w1.heap[b]?=some (.cells cells.toArray t (0,0)))→G (a.put N v1) w1):Ev1 Tryz.prog o ops Q a W G:=by
 intro K hK
 subst hN
 refine Kd.R_append_rows_step (Kd.int .i64) (Rr:=Kd.K (Kd.int .i64) W) (w0:=w) (W:=W) w.heap.size hw s y 29 3 (.int .i64 0) 8 ho Tryz.underlying29 info3 rfl zq31 zq31 vo [] ys A m c (fun k=>T≤k) (fun _=>False) hs hy HO KC (fun _ _ h=>h) (fun _ h=>h.elim) (fun k hk=>z5a hT.1 hk) HN.bel HN.bel.size (by simp only [List.length_nil];omega) ?_
 intro v1 w1 hr hb hg hat
 rw [List.nil_append] at hr
 have hown:∀k,vo.ownBlock=some k→T≤k:=HO.1
 exact hK.out _ _ (h v1 w1 ⟨HN.grown hg (fun k hk=>by have:=hown k hk;omega)⟩ ⟨Kd.S_grown HS hg (fun k hk e=>by have:=hown k e.symm;have:=hk.2;omega)⟩ ⟨hr⟩ ⟨hg.size⟩ ⟨fun b t cells ht hb2=>zK hb2 hg (Kd.R_ne HO hb2 (Ne.symm ht))⟩)
end
theorem own_of_S {w:World} {base:Nat} {ok:Nat→Prop} {xs:List Int} {u:Value} (h:(Own.srow 3 (Kd.int .i64)).M w base ok xs [u]):Kd.R (Kd.int .i64) 3 w base ok u xs:=by
 obtain ⟨v,hv,hs⟩:=h
 injection hv with hv
 subst hv
 exact Kd.S_R hs
def specMetaText.T3:Bool×List (List Nat×List Nat):=(true,[([],[]),([0],[0]),([1],[1]),([],[]),([3],[3]),([4,2],[4]),([2,5],[2,5]),([],[]),([7],[7]),([8,5],[8]),([6,9],[6,9]),([],[]),([11],[11]),([12],[12]),([13,9],[13]),([10,14],[10,14]),([15,14,0,1,2,3,4,5,6,7,8,9,10,11,12,13,14,15],[15])])
def specMetaText.B3:List Nat:=[0,1,3,0,8,31,63,0,128,447,1023,0,2048,6144,15295,32767,65535]
theorem specMetaText.ok3_0:regB (zFa Tryz.f37 3) specMetaText.T3 specMetaText.B3 [] [.p 0,.t 1,.p 3,.t 4,.p 7,.t 8,.p 11,.t 12,.p 13,.e 2,.e 5,.p 6,.e 9,.p 10,.e 14,.p 15,.p 16]=true:=zq13
def specMetaText.T7:Bool×List (List Nat×List Nat):=(true,[([],[]),([],[]),([1],[1]),([],[]),([2,3],[2,3]),([4],[4]),([5],[5]),([6],[6]),([0,7],[0,7]),([],[]),([9],[9]),([],[]),([10,11],[10,11]),([12],[12]),([13],[13]),([14],[14]),([15,7],[15]),([8,16],[8,16]),([17,16,0,1,2,3,4,5,6,7,8,9,10,11,12,13,14,15,16,17],[0,17])])
def specMetaText.B7:List Nat:=[0,0,2,0,14,30,62,126,255,0,512,0,3584,7680,15872,32256,65278,131071,262143]
theorem specMetaText.ok7_1:regB (zFa Tryz.f37 7) specMetaText.T7 specMetaText.B7 [] [.p 0,.p 1,.t 2,.p 3,.p 4,.p 5,.t 6,.p 9,.t 10,.p 11,.p 12,.p 13,.t 14,.p 15,.e 7,.p 8,.e 16,.p 17,.p 18]=true:=zq13
theorem zXa {k:Nat} {vt:Int→ByteArray} {sl:ByteArray→ByteArray} (T:TxF k vt sl) (x:S40) (t:ByteArray) (ok:Bool) {cs:List Value} (w:World) (h:k40.K w x cs) (hm:MTxt vt sl x t ok):
  Calls Tryz.prog 37 #[.agg cs.toArray] w fun e w'=>e= .returned (.tuple #[.string t,.bool ok])∧Below w.heap.size w w':=by
 have hK:=h
 obtain ⟨AF,cF,rfl,mF,rF⟩:=zEa h
 have KR:=zz rF
 have KM:=zz hK
 have HM:=zz hm
 have HV:=zz T
 have bn:=rF.2.1
 have BA:=zz (BoxAt.mk (cs:=[.int .i64 x.f0,.int .i64 x.f1,.int .i64 x.f2,.slice AF x.f3.length cF]) (zqa w (.cells #[.int .i64 x.f0,.int .i64 x.f1,.int .i64 x.f2,.slice AF x.f3.length cF] 40)) (zo (z1a w.heap.size w) (.cells #[.int .i64 x.f0,.int .i64 x.f1,.int .i64 x.f2,.slice AF x.f3.length cF] 40)))
 clear h mF rF hm hK T
 by_cases hh:MOk x
 ·have HO:=zz hh
  have n0:=hh.f0
  have n1:=hh.f1
  have n2:=hh.f2
  have n3:=hh.len
  clear hh
  go_enter Tryz.func37,Tryz.ntmps37
  go_upto_region 3 with (first|((with_reducible refine zd (N:=9) rfl ?_);refine zf rfl 40 _ rfl w.heap.size 0 [] [.int .i64 x.f0,.int .i64 x.f1,.int .i64 x.f2,.slice AF x.f3.length cF] [] _ rfl BA.1.box rfl rfl Tryz.underlying40 rfl zq13 ?_)|((with_reducible refine (specMetaOk_c x true _ (k40.K_below BA.1.bel KM.1) ⟨fun _=>HO.1,fun _=>rfl⟩).mono ?_);rintro e w1 ⟨rfl,hb⟩;have BA1:=zz (BA.1.step hb);clear hb))
  have hp0:w1.cell? ⟨w.heap.size,0,none⟩=some (.int .i64 x.f0):=(zj BA1.1.box 0).trans rfl
  have hp1:w1.cell? ⟨w.heap.size,1,none⟩=some (.int .i64 x.f1):=(zj BA1.1.box 1).trans rfl
  have hp2:w1.cell? ⟨w.heap.size,2,none⟩=some (.int .i64 x.f2):=(zj BA1.1.box 2).trans rfl
  have hp3:w1.cell? ⟨w.heap.size,3,none⟩=some (.slice AF x.f3.length cF):=(zj BA1.1.box 3).trans rfl
  have s0:=HV.1.vz x.f0
  have s1:=HV.1.vz x.f1
  have s2:=HV.1.vz x.f2
  have s3:=HV.1.vz (x.f3.length:Int)
  have za:(9223372036854775807<(vt x.f0).size+(vt x.f1).size)=False:=eq_false zq9
  have zb:(9223372036854775807<(vt x.f0).size+(vt x.f1).size+(vt x.f2).size)=False:=eq_false zq9
  have zc:(9223372036854775807<(vt x.f0).size+(vt x.f1).size+(vt x.f2).size+(vt (x.f3.length:Int)).size)=False:=eq_false zq9
  have HK:=zz (z1a w1.heap.size w1).drew
  refine zMa specMetaText.ok3_0 (S:=fun w'=>w'.cell? ⟨w.heap.size,0,none⟩=some (.int .i64 x.f0)∧w'.cell? ⟨w.heap.size,1,none⟩=some (.int .i64 x.f1)∧w'.cell? ⟨w.heap.size,2,none⟩=some (.int .i64 x.f2)∧w'.cell? ⟨w.heap.size,3,none⟩=some (.slice AF x.f3.length cF)) zq13 (fun _ _ _ _ h=>h) ⟨zi hp0 HK.1,zi hp1 HK.1,zi hp2 HK.1,zi hp3 HK.1⟩ (fun hHeld=> ?_)
  (refine zpa (v:= ?_) (a':= ?_) rfl rfl (Or.inl ⟨zq22,zq12⟩) zq3 ?_)
  (refine zbb (v:= ?_) (a':= ?_) rfl rfl (Or.inl ⟨zq22,zq49⟩) zq3 ?_)
  (refine zpa (v:= ?_) (a':= ?_) rfl rfl (Or.inl ⟨zq22,zq12⟩) zq3 ?_)
  (refine zbb (v:= ?_) (a':= ?_) rfl rfl (Or.inl ⟨zq22,zq49⟩) zq3 ?_)
  (refine zpa (v:= ?_) (a':= ?_) rfl rfl (Or.inl ⟨zq22,zq12⟩) zq3 ?_)
  (refine zbb (v:= ?_) (a':= ?_) rfl rfl (Or.inl ⟨zq22,zq49⟩) zq3 ?_)
  (refine zpa (v:= ?_) (a':= ?_) rfl rfl (Or.inl ⟨zq22,zq12⟩) zq3 ?_)
  (refine zbb (v:= ?_) (a':= ?_) rfl rfl (Or.inl ⟨zq22,zq49⟩) zq3 ?_)
  (refine zpa (v:= ?_) (a':= ?_) rfl rfl (Or.inl ⟨zq22,zq12⟩) zq3 ?_)
  refine zva rfl rfl Tryz.func81 zq13 rfl #[.int .i64 x.f0] zq22 rfl zq14 ?_
  with_reducible refine (varS HV.1 x.f0 n0.1 n0.2 _).mono ?_
  rintro e w2 ⟨rfl,hb⟩
  replace HK:=zz (ze HK.1 hb)
  clear hb
  refine ⟨_,rfl,⟨zi hp0 HK.1,zi hp1 HK.1,zi hp2 HK.1,zi hp3 HK.1⟩,(fun hHeld=> ?_)⟩
  refine zha (a':= ?_) zq3 ?_
  refine zva rfl rfl Tryz.func81 zq13 rfl #[.int .i64 x.f1] zq22 rfl zq14 ?_
  with_reducible refine (varS HV.1 x.f1 n1.1 n1.2 _).mono ?_
  rintro e w2 ⟨rfl,hb⟩
  replace HK:=zz (ze HK.1 hb)
  clear hb
  refine ⟨_,rfl,⟨zi hp0 HK.1,zi hp1 HK.1,zi hp2 HK.1,zi hp3 HK.1⟩,(fun hHeld=> ?_)⟩
  refine zha (a':= ?_) zq3 ?_
  (refine zpa (v:= ?_) (a':= ?_) rfl rfl (Or.inl ⟨zq22,zq12⟩) zq3 ?_)
  refine zva rfl rfl Tryz.func81 zq13 rfl #[.int .i64 x.f2] zq22 rfl zq14 ?_
  with_reducible refine (varS HV.1 x.f2 n2.1 n2.2 _).mono ?_
  rintro e w2 ⟨rfl,hb⟩
  replace HK:=zz (ze HK.1 hb)
  clear hb
  refine ⟨_,rfl,⟨zi hp0 HK.1,zi hp1 HK.1,zi hp2 HK.1,zi hp3 HK.1⟩,(fun hHeld=> ?_)⟩
  refine zha (a':= ?_) zq3 ?_
  (refine zpa (v:= ?_) (a':= ?_) rfl rfl (Or.inl ⟨zq22,zq12⟩) zq3 ?_)
  refine zva rfl rfl Tryz.func81 zq13 rfl #[.int .i64 (x.f3.length:Int)] zq22 rfl zq14 ?_
  with_reducible refine (varS HV.1 (x.f3.length:Int) zq9 zq9 _).mono ?_
  rintro e w2 ⟨rfl,hb⟩
  replace HK:=zz (ze HK.1 hb)
  clear hb
  refine ⟨_,rfl,⟨zi hp0 HK.1,zi hp1 HK.1,zi hp2 HK.1,zi hp3 HK.1⟩,(fun hHeld=> ?_)⟩
  refine zha (a':= ?_) zq3 ?_
  iterate 2 (refine zpa (v:= ?_) (a':= ?_) rfl rfl (Or.inl ⟨zq22,zq12⟩) zq3 ?_)
  refine zZa ?_
  clear hHeld hp0 hp1 hp2 hp3 za zb zc s0 s1 s2 s3
  replace BA1:=zz (BA1.1.step HK.1)
  clear HK
  go_wp2_with fail
  go_loopg [4,5] (x.f3.length+1) (fun kq v4 v5 w'=>∃(i:Nat),v4= .string (facc vt (mhead vt x) (x.f3.take i))∧v5= .int .i64 (i:Int)∧Z0 (kq+i=x.f3.length+1)∧Z0 (i≤x.f3.length)∧Z0 (BoxAt w w' [.int .i64 x.f0,.int .i64 x.f1,.int .i64 x.f2,.slice AF x.f3.length cF]))
  case atStart=>exact ⟨0,rfl,rfl,⟨zq9⟩,⟨z0b _⟩,BA1⟩
  case round=>
   clear BA BA1
   obtain ⟨i,rfl,rfl,HQ,HI,BA⟩:=hrel
   obtain ⟨s,hs⟩:∃s,s=facc vt (mhead vt x) (x.f3.take i):=⟨_,rfl⟩
   have hsz:s.size≤7000:=zq191
   rw [←hs]
   have HSE:=zz hs
   clear hs
   by_cases hlt:i<x.f3.length
   ·have c1:decide ((i:Int)<(x.f3.length:Int))=true:=z6 zq9
    have c0:decide ((0:Int)≤(i:Int))=true:=z6 zq9
    have c2:((i:Int)<(x.f3.length:Int))=True:=eq_true zq9
    have c3:((0:Int)≤(i:Int))=True:=eq_true zq9
    cases gk with
    |zero=>exact absurd HQ.1 zq9
    |succ k1=>
     obtain ⟨ad,A1,c11,hA,z0,z1,hl4,hC4⟩:=zxb KR.1 (i:Int) zq9 zq9
     subst hA
     obtain ⟨el,hel⟩:∃el,el=zF x.f3 (i:Int):=⟨_,rfl⟩
     have hel2:x.f3[i]?=some el:=zq72
     rw [←hel] at z0 z1 hl4 hC4
     simp only [Int.toNat_natCast] at z0 z1
     have Z1:=zz z1
     replace z0:=zi z0 BA.1.bel
     replace z1:=zi z1 BA.1.bel
     have HE:=zz hel2
     have KE:=zz hC4
     have be:el.f1.length≤9223372036854775807:=hC4.2.1
     have nf:=(HO.1.fr hel2).1
     have nl:=(HO.1.fr hel2).2.1
     have s0:=HV.1.vz el.f0
     have s3:=HV.1.vz (el.f1.length:Int)
     clear hel hel2 hC4 hl4
     have hp3:wr.cell? ⟨w.heap.size,3,none⟩=some (.slice (some ad) x.f3.length cF):=(zj BA.1.box 3).trans rfl
     have zp:=trivial
     have za:(9223372036854775807<s.size+(vt el.f0).size)=False:=eq_false zq9
     have zb:(9223372036854775807<s.size+(vt el.f0).size+(vt (el.f1.length:Int)).size)=False:=eq_false zq9
     go_upto_region 7 with (fail)
     have HK:=zz (z1a wr.heap.size wr).drew
     refine zMa specMetaText.ok7_1 (S:=fun w'=>w'.cell? ⟨w.heap.size,3,none⟩=some (.slice (some ad) x.f3.length cF)∧w'.cell? (ad.add (i*2))=some (.int .i64 el.f0)∧w'.cell? ⟨(ad.add (i*2)).block,(ad.add (i*2)).off+1,none⟩=some (.slice A1 el.f1.length c11)) zq13 (fun _ _ _ _ h=>h) ⟨zi hp3 HK.1,zi z0 HK.1,zi z1 HK.1⟩ (fun hHeld=> ?_)
     iterate 2 (refine zpa (v:= ?_) (a':= ?_) rfl rfl (Or.inl ⟨zq22,zq12⟩) zq3 ?_)
     (refine zbb (v:= ?_) (a':= ?_) rfl rfl (Or.inl ⟨zq22,zq99⟩) zq3 ?_)
     iterate 3 (refine zpa (v:= ?_) (a':= ?_) rfl rfl (Or.inl ⟨zq22,zq12⟩) zq3 ?_)
     (refine zbb (v:= ?_) (a':= ?_) rfl rfl (Or.inl ⟨zq22,zq99⟩) zq3 ?_)
     (refine zpa (v:= ?_) (a':= ?_) rfl rfl (Or.inl ⟨zq22,zq12⟩) zq3 ?_)
     (refine zbb (v:= ?_) (a':= ?_) rfl rfl (Or.inl ⟨zq22,zq99⟩) zq3 ?_)
     iterate 3 (refine zpa (v:= ?_) (a':= ?_) rfl rfl (Or.inl ⟨zq22,zq12⟩) zq3 ?_)
     (refine zbb (v:= ?_) (a':= ?_) rfl rfl (Or.inl ⟨zq22,zq99⟩) zq3 ?_)
     (refine zpa (v:= ?_) (a':= ?_) rfl rfl (Or.inl ⟨zq22,zq12⟩) zq3 ?_)
     refine zva rfl rfl Tryz.func81 zq13 rfl #[.int .i64 el.f0] zq22 rfl zq14 ?_
     with_reducible refine (varS HV.1 el.f0 nf.1 nf.2 _).mono ?_
     rintro e w2 ⟨rfl,hb⟩
     replace HK:=zz (ze HK.1 hb)
     clear hb
     refine ⟨_,rfl,⟨zi hp3 HK.1,zi z0 HK.1,zi z1 HK.1⟩,(fun hHeld=> ?_)⟩
     refine zha (a':= ?_) zq3 ?_
     (refine zpa (v:= ?_) (a':= ?_) rfl rfl (Or.inl ⟨zq22,zq12⟩) zq3 ?_)
     refine zva rfl rfl Tryz.func81 zq13 rfl #[.int .i64 (el.f1.length:Int)] zq22 rfl zq14 ?_
     with_reducible refine (varS HV.1 (el.f1.length:Int) zq9 zq9 _).mono ?_
     rintro e w2 ⟨rfl,hb⟩
     replace HK:=zz (ze HK.1 hb)
     clear hb
     refine ⟨_,rfl,⟨zi hp3 HK.1,zi z0 HK.1,zi z1 HK.1⟩,(fun hHeld=> ?_)⟩
     refine zha (a':= ?_) zq3 ?_
     iterate 2 (refine zpa (v:= ?_) (a':= ?_) rfl rfl (Or.inl ⟨zq22,zq12⟩) zq3 ?_)
     refine zZa ?_
     clear hHeld zp za zb
     obtain ⟨s1,hs1⟩:∃s1,s1=s++vt el.f0++vt (el.f1.length:Int):=⟨_,rfl⟩
     have hsz1:s1.size≤7016:=by rw [hs1,ByteArray.size_append,ByteArray.size_append];omega
     rw [←hs1]
     have HS1:=zz hs1
     clear hs1 hp3 z0 z1
     replace BA:=zz (BA.1.step HK.1)
     clear HK s0 s3
     have hp3:=(zj BA.1.box 3).trans rfl
     clear hp3
     go_wp2_with fail
     go_loopg [4,6] (el.f1.length+1) (fun kq v4 v6 w'=>∃(j:Nat),v4= .string (pacc vt s1 (el.f1.take j))∧v6= .int .i64 (j:Int)∧Z0 (kq+j=el.f1.length+1)∧Z0 (j≤el.f1.length)∧Z0 (BoxAt w w' [.int .i64 x.f0,.int .i64 x.f1,.int .i64 x.f2,.slice (some ad) x.f3.length cF]))
     case atStart=>exact ⟨0,rfl,rfl,⟨zq9⟩,⟨z0b _⟩,BA⟩
     case round=>
      clear BA
      obtain ⟨j,rfl,rfl,HQ2,HI2,BA⟩:=hrel
      obtain ⟨s2,hs2⟩:∃s2,s2=pacc vt s1 (el.f1.take j):=⟨_,rfl⟩
      have hsz2:s2.size≤8000:=by
       have h1:=pacc_size HV.1.vz s1 (el.f1.take j)
       have h3:=List.length_take_le j el.f1
       have h4:=HI2.1
       rw [hs2]
       omega
      rw [←hs2]
      have HS2:=zz hs2
      clear hs2
      have hp3:wr.cell? ⟨w.heap.size,3,none⟩=some (.slice (some ad) x.f3.length cF):=(zj BA.1.box 3).trans rfl
      have z1:=zi Z1.1 BA.1.bel
      by_cases hk:j<el.f1.length
      ·have d1:decide ((j:Int)<(el.f1.length:Int))=true:=z6 zq9
       have d0:decide ((0:Int)≤(j:Int))=true:=z6 zq9
       have d2:((j:Int)<(el.f1.length:Int))=True:=eq_true zq9
       have d3:((0:Int)≤(j:Int))=True:=eq_true zq9
       cases gk with
       |zero=>exact absurd HQ2.1 zq9
       |succ k2=>
        obtain ⟨ap,hAp,pc⟩:=C_at KE.1 hk
        subst hAp
        obtain ⟨p,hp⟩:∃p,p=el.f1[j]:=⟨_,rfl⟩
        rw [←hp] at pc
        have HPK:=zz (show el.f1[j]?=some p from by rw [hp];exact List.getElem?_eq_getElem hk)
        clear hp
        replace pc:=zi pc BA.1.bel
        have np:=(HO.1.fr HE.1).2.2 j p HPK.1
        have sp:=HV.1.vz p
        have za:(9223372036854775807<s2.size+(vt p).size)=False:=eq_false zq9
        go_wp2_with ((with_reducible refine (varS HV.1 p np.1 np.2 _).mono ?_);rintro e w2 ⟨rfl,hb⟩;have HB2:=zz hb;clear hb pc hp3 z1)
        go_roundg k2
        case measure=>omega
        case rel=>exact ⟨j+1,by rw [pacc_succ HPK.1,←HS2.1],zq110,⟨zq51 HQ2.1⟩,⟨zq9⟩,⟨BA.1.step HB2.1⟩⟩
      ·have d1:decide ((j:Int)<(el.f1.length:Int))=false:=z7 zq9
       have HJ:=zz (show j=el.f1.length by have:=HI2.1;omega)
       go_wp2
       go_roundg k1
       case measure=>omega
       case rel=>exact ⟨i+1,by rw [facc_succ HE.1,←HSE.1,←HS1.1,HS2.1,HJ.1,List.take_length],zq110,⟨zq115⟩,⟨zq9⟩,BA⟩
   ·have c1:decide ((i:Int)<(x.f3.length:Int))=false:=z7 zq9
    have hsb:s=mbody vt x:=by rw [HSE.1,show i=x.f3.length by have:=HI.1;omega,List.take_length];rfl
    have HSB:=zz hsb
    clear hsb
    obtain ⟨t0,ht0⟩:∃t0,t0=s++sl s:=⟨_,rfl⟩
    have HT0:=zz ht0
    have hsl4:(sl s).size≤4:=Nat.le_of_eq (HV.1.sz s)
    have hw:(240<t0.size∧t=⟨#[]⟩∧ok=false)∨(t0.size≤240∧t=t0∧ok=true):=zq212
    clear ht0
    have hp3:wr.cell? ⟨w.heap.size,3,none⟩=some (.slice AF x.f3.length cF):=(zj BA.1.box 3).trans rfl
    rcases hw with ⟨h,rfl,rfl⟩|⟨h,he,rfl⟩
    ·have g1:decide (240<(t0.size:Int))=true:=z6 zq9
     have g2:decide (240<t0.size)=true:=z6 h
     exact zq188
    ·obtain rfl:t0=t:=he.symm
     have g1:decide (240<(t0.size:Int))=false:=z7 zq9
     have g2:decide (240<t0.size)=false:=z7 zq9
     exact zq188
 ·have HO:=zz hh
  obtain ⟨ht,hk⟩:t=⟨#[]⟩∧ok=false:=by
   rcases HM.1 with h|h|h
   ·exact h.2
   ·exact absurd h.1 hh
   ·exact absurd h.1 hh
  subst ht
  subst hk
  clear hh
  go_enter Tryz.func37,Tryz.ntmps37
  go_wp2_with (first|((with_reducible refine zd (N:=9) rfl ?_);refine zf rfl 40 _ rfl w.heap.size 0 [] [.int .i64 x.f0,.int .i64 x.f1,.int .i64 x.f2,.slice AF x.f3.length cF] [] _ rfl BA.1.box rfl rfl Tryz.underlying40 rfl zq13 ?_)|((with_reducible refine (specMetaOk_c x false _ (k40.K_below BA.1.bel KM.1) ⟨fun h=>(by cases h),fun h=>absurd h HO.1⟩).mono ?_);rintro e w1 ⟨rfl,hb⟩;have BA1:=zz (BA.1.step hb);clear hb))
  go_ret2
  exact ⟨rfl,BA1.1.bel⟩
def specNM_T16:Bool×List (List Nat×List Nat):=(true,[([],[]),([0],[0]),([],[]),([],[]),([3],[3]),([4],[4]),([2,5],[2,5]),([1,6],[1,6]),([],[]),([8,7,6,0,1,2,3,4,5,6,7,8],[7,8])])
def specNM_B16:List Nat:=[0,1,0,0,8,24,60,127,0,511]
theorem specNM_ok16:regT (zFa Tryz.f35 16) specNM_T16 specNM_B16 [9] (.p 0 (.t 1 (.p 3 (.p 4 (.t 5 (.two 2 8 (.two 6 8 (.p 7 (.e 8 (.l 9 .d))) (.e 6 (.p 7 (.l 9 .d)))) (.e 2 (.e 6 (.p 7 (.l 9 .d))))))))))=true:=zq13
def specNM_w.T21:Bool×List (List Nat×List Nat):=(true,[([],[]),([0],[0]),([],[]),([2],[2]),([3],[3]),([],[]),([4,5],[4,5]),([6],[6]),([7],[7]),([1,8],[1,8]),([0,1,2,3,4,5,6,7,8,9],[]),([10,9,9,0,1,2,3,4,5,6,7,8,9],[9,10])])
def specNM_w.B21:List Nat:=[0,1,0,4,12,0,60,124,252,511,1023,2047]
theorem specNM_w.ok21_0:regB (zFa Tryz.f35 21) specNM_w.T21 specNM_w.B21 [11] [.p 0,.t 1,.p 2,.p 3,.t 4,.p 5,.p 6,.t 7,.e 8,.e 9,.p 10,.l 11]=true:=zq13
theorem specNM_w {k:Nat} {vt:Int→ByteArray} {sl:ByteArray→ByteArray} (T:TxF k vt sl) (x:S40) (l0:List ByteArray) (l1:List S110) (l2:Int) (l3 l4 l5:List Int) (n:Int) (tx:Int) (htx:(x.f0<100001∧tx=wrap64 (x.f0+1))∨(¬x.f0<100001∧tx=x.f0)) (t:ByteArray) (b:Bool) {cs:List Value} (w:World) (h:kTxn.K w (x,(l0,l1,l2,l3,l4,l5),n) cs) (hx:zua x) (hl:l3.length≤2000000∧l4.length≤2000000∧l5.length≤2000000) (hm:MTxt vt sl (nmM tx n l2 x l3 l4 l5) t b):
  Calls Tryz.prog 35 #[.agg cs.toArray] w fun e w'=>∃ds:List Value,e= .returned (.tuple #[.agg ds.toArray,.bool b])∧k40.M w' w.heap.size (Fr w w') (if b=true then nmM tx n l2 x l3 l4 l5 else ⟨0,0,0,[]⟩) ds∧Below w.heap.size w w':=by
 obtain ⟨cM,_,rfl,hM,cW,cI,rfl,hW,hI⟩:=h
 obtain rfl:cI=[.int .i64 n]:=hI
 obtain ⟨AF,cF,rfl,mF,rF⟩:=zEa hM
 obtain ⟨A0,c0,A1,c1,A3,c3,A4,c4,A5,c5,rfl,m0,r0,m1,r1,m3,r3,m4,r4,m5,r5⟩:=zac hW
 simp only [List.cons_append,List.nil_append]
 have HM:=zz hm
 have HV:=zz T
 have KR:=zz rF
 have KU:=zz r3
 have KG:=zz (And.intro m4 r4)
 have KF:=zz r5
 have HX:=zz hx
 have bn:x.f3.length≤2000000:=hx.1
 have b3:=hl.1
 have b4:=hl.2.1
 have b5:=hl.2.2
 clear hM hW mF rF m0 r0 m1 r1 m3 r3 m4 r4 m5 r5 T hm hx hl
 rcases htx with ⟨ht,htx⟩|⟨ht,htx⟩
 all_goals
  have HTX:=zz htx
  (first|(have q1:decide (x.f0<100001)=true:=z6 ht)|(have q1:decide (x.f0<100001)=false:=z7 ht))
  clear htx ht
  go_enter Tryz.func35,Tryz.ntmps35
  go_upto_region 4 with (fail)
  (first|(obtain ⟨W1,hW1⟩:∃W1,W1=((w.alloc (.cells #[.int .i64 x.f0,.int .i64 x.f1,.int .i64 x.f2,.slice AF x.f3.length cF,.slice A0 l0.length c0,.slice A1 l1.length c1,.int .i64 l2,.slice A3 l3.length c3,.slice A4 l4.length c4,.slice A5 l5.length c5,.int .i64 n] 46)).alloc (.cells #[.int .i64 0,.int .i64 0,.int .i64 0,.slice none 0 0] 40)).alloc (.cells #[.int .i64 (wrap64 (x.f0+1)),.int .i64 n,.int .i64 l2,.slice none 0 0] 40):=⟨_,rfl⟩;rw [←hW1])|(obtain ⟨W1,hW1⟩:∃W1,W1=((w.alloc (.cells #[.int .i64 x.f0,.int .i64 x.f1,.int .i64 x.f2,.slice AF x.f3.length cF,.slice A0 l0.length c0,.slice A1 l1.length c1,.int .i64 l2,.slice A3 l3.length c3,.slice A4 l4.length c4,.slice A5 l5.length c5,.int .i64 n] 46)).alloc (.cells #[.int .i64 0,.int .i64 0,.int .i64 0,.slice none 0 0] 40)).alloc (.cells #[.int .i64 x.f0,.int .i64 n,.int .i64 l2,.slice none 0 0] 40):=⟨_,rfl⟩;rw [←hW1]))
  have HN:=zz (show NB w W1 [.int .i64 x.f0,.int .i64 x.f1,.int .i64 x.f2,.slice AF x.f3.length cF,.slice A0 l0.length c0,.slice A1 l1.length c1,.int .i64 l2,.slice A3 l3.length c3,.slice A4 l4.length c4,.slice A5 l5.length c5,.int .i64 n] (w.heap.size+1+1) [.int .i64 (tx),.int .i64 n,.int .i64 l2] (.slice none 0 0) from by rw [hW1,HTX.1];first|exact nb0 w [.int .i64 x.f0,.int .i64 x.f1,.int .i64 x.f2,.slice AF x.f3.length cF,.slice A0 l0.length c0,.slice A1 l1.length c1,.int .i64 l2,.slice A3 l3.length c3,.slice A4 l4.length c4,.slice A5 l5.length c5,.int .i64 n] [.int .i64 (wrap64 (x.f0+1)),.int .i64 n,.int .i64 l2]|exact nb0 w [.int .i64 x.f0,.int .i64 x.f1,.int .i64 x.f2,.slice AF x.f3.length cF,.slice A0 l0.length c0,.slice A1 l1.length c1,.int .i64 l2,.slice A3 l3.length c3,.slice A4 l4.length c4,.slice A5 l5.length c5,.int .i64 n] [.int .i64 x.f0,.int .i64 n,.int .i64 l2])
  clear hW1 q1
  go_wp2_with fail
  go_loopg [5] (x.f3.length+1) (fun kq v5 w'=>∃(i:Nat) (v:Value),v5= .int .i64 (i:Int)∧Z0 (kq+i=x.f3.length+1)∧Z0 (i≤x.f3.length)∧Z0 (NB w w' [.int .i64 x.f0,.int .i64 x.f1,.int .i64 x.f2,.slice AF x.f3.length cF,.slice A0 l0.length c0,.slice A1 l1.length c1,.int .i64 l2,.slice A3 l3.length c3,.slice A4 l4.length c4,.slice A5 l5.length c5,.int .i64 n] (w.heap.size+1+1) [.int .i64 (tx),.int .i64 n,.int .i64 l2] v)∧Z0 (Kd.S k112 112 w' w.heap.size (fun k=>w.heap.size+1+1<k) v (nmF l5 (x.f3.take i))))
  case atStart=>exact ⟨0,_,rfl,⟨zq9⟩,⟨z0b _⟩,HN,⟨Kd.S_nil _ _ _ _ _⟩⟩
  case round=>
   clear HN
   obtain ⟨i,v,rfl,HQ,HI,HN,HS⟩:=hrel
   obtain ⟨fs,hfs⟩:∃fs,fs=nmF l5 (x.f3.take i):=⟨_,rfl⟩
   have hfl:fs.length≤2000000:=by
    have h1:=nmF_len l5 (x.f3.take i)
    have h2:=List.length_take_le i x.f3
    have h3:=HI.1
    rw [hfs]
    omega
   rw [←hfs] at HS
   have HFS:=zz hfs
   clear hfs
   obtain ⟨Av,cv,rfl⟩:=Kd.S_slice HS.1
   have hp3:wr.cell? ⟨w.heap.size,3,none⟩=some (.slice AF x.f3.length cF):=(zj HN.1.A 3).trans rfl
   by_cases hlt:i<x.f3.length
   ·have e1:decide ((i:Int)<(x.f3.length:Int))=true:=z6 zq9
    have e0:decide ((0:Int)≤(i:Int))=true:=z6 zq9
    have e2:((i:Int)<(x.f3.length:Int))=True:=eq_true zq9
    have e3:((0:Int)≤(i:Int))=True:=eq_true zq9
    cases gk with
    |zero=>exact absurd HQ.1 zq9
    |succ k1=>
     obtain ⟨ad,A1_,c1_,hA,z0,z1,hl4,hC4⟩:=zxb KR.1 (i:Int) zq9 zq9
     subst hA
     obtain ⟨el,hel⟩:∃el,el=zF x.f3 (i:Int):=⟨_,rfl⟩
     have hel2:x.f3[i]?=some el:=zq72
     rw [←hel] at z0 z1 hl4 hC4
     simp only [Int.toNat_natCast] at z0 z1
     have Z1:=zz z1
     replace z0:=zi z0 HN.1.bel
     have HE:=zz hel2
     have KE:=zz hC4
     have hle:el.f1.length≤2000000:=HX.1.2 el (List.mem_of_getElem? hel2)
     clear hel hel2 hC4 hl4 z1
     go_upto_region 8 with (fail)
     obtain ⟨W1,hW1⟩:∃W1,W1=wr.alloc (.cells #[.int .i64 el.f0,.slice none 0 0] 112):=⟨_,rfl⟩
     have BF:=zz (show W1.heap[wr.heap.size]?=some (.cells ([.int .i64 el.f0,.slice none 0 0]:List Value).toArray 112 (0,0)) from by rw [hW1];exact zqa wr _)
     have HB1:=zz (show Below wr.heap.size wr W1 from by rw [hW1];exact zo (z1a _ _) _)
     rw [←hW1]
     obtain ⟨gF,hgF⟩:∃g,g=wr.heap.size:=⟨_,rfl⟩
     have HS1:=zz (Kd.S_mono (Kd.S_below (Kd.S_bound HS.1) HB1.1) (ok':=fun k=>w.heap.size+1+1<k∧k<gF) (fun k hk=>⟨hk.1,by rw [hgF];exact hk.2.2.1⟩))
     have hGF:w.heap.size+1+1<gF:=by rw [hgF];exact zP HN.1.B
     replace HN:=zz (HN.1.step HB1.1)
     rw [←hgF] at BF ⊢
     clear hW1 z0 hgF HB1 HS hp3
     go_wp2_with fail
     go_loopg [7] (el.f1.length+1) (fun kq v7 w'=>∃(j:Nat) (vp:Value),v7= .int .i64 (j:Int)∧Z0 (kq+j=el.f1.length+1)∧Z0 (j≤el.f1.length)∧Z0 (NB w w' [.int .i64 x.f0,.int .i64 x.f1,.int .i64 x.f2,.slice (some ad) x.f3.length cF,.slice A0 l0.length c0,.slice A1 l1.length c1,.int .i64 l2,.slice A3 l3.length c3,.slice A4 l4.length c4,.slice A5 l5.length c5,.int .i64 n] (w.heap.size+1+1) [.int .i64 (tx),.int .i64 n,.int .i64 l2] (.slice Av fs.length cv))∧Z0 (Kd.S k112 112 w' w.heap.size (fun k=>w.heap.size+1+1<k∧k<gF) (.slice Av fs.length cv) fs)∧Z0 (w'.heap[gF]?=some (.cells ([.int .i64 el.f0,vp]:List Value).toArray 112 (0,0)))∧Z0 (Kd.R (Kd.int .i64) 3 w' w.heap.size (fun k=>gF<k) vp ((el.f1.take j).filter (kp l5))))
     case atStart=>exact ⟨0,_,rfl,⟨zq9⟩,⟨z0b _⟩,HN,HS1,BF,⟨Kd.R_nil _ _ _ _ _⟩⟩
     case round=>
      clear HN HS1 BF
      obtain ⟨j,vp,rfl,HQ2,HJ,HN,HS,BF,HO⟩:=hrel
      obtain ⟨ps,hps⟩:∃ps,ps=(el.f1.take j).filter (kp l5):=⟨_,rfl⟩
      have hpl:ps.length≤4000000:=by
       have h1:=List.length_filter_le (kp l5) (el.f1.take j)
       have h2:=List.length_take_le j el.f1
       have h3:=HJ.1
       rw [hps]
       omega
      rw [←hps] at HO
      have HPS:=zz hps
      clear hps
      obtain ⟨Ap,cp,rfl⟩:=Kd.R_slice HO.1
      have hp3:wr.cell? ⟨w.heap.size,3,none⟩=some (.slice (some ad) x.f3.length cF):=(zj HN.1.A 3).trans rfl
      have z1:=zi Z1.1 HN.1.bel
      have hf1:wr.cell? ⟨gF,1,none⟩=some (.slice Ap ps.length cp):=(zj BF.1 1).trans rfl
      by_cases hlt:j<el.f1.length
      ·have d1:decide ((j:Int)<(el.f1.length:Int))=true:=z6 zq9
       have d0:decide ((0:Int)≤(j:Int))=true:=z6 zq9
       have d2:((j:Int)<(el.f1.length:Int))=True:=eq_true zq9
       have d3:((0:Int)≤(j:Int))=True:=eq_true zq9
       cases gk with
       |zero=>exact absurd HQ2.1 zq9
       |succ k2=>
        obtain ⟨ap,hAp,pc⟩:=C_at KE.1 hlt
        subst hAp
        obtain ⟨p,hp⟩:∃p,p=el.f1[j]:=⟨_,rfl⟩
        rw [←hp] at pc
        have HPK:=zz (show el.f1[j]?=some p from by rw [hp];exact List.getElem?_eq_getElem hlt)
        clear hp
        replace pc:=zi pc HN.1.bel
        have hA9:wr.cell? ⟨w.heap.size,9,none⟩=some (.slice A5 l5.length c5):=(zj HN.1.A 9).trans rfl
        have KW:=zz (Kd.C_below KF.1 HN.1.bel)
        cases hin:hasB l5 p with
        |true=>
         have HIN:=zz hin
         clear hin
         go_wp2_with ((with_reducible refine (hasS _ _ _ _ _ KW.1 b5).mono ?_);rintro e w1 ⟨rfl,rfl⟩;rw [HIN.1])
         go_roundg k2
         case measure=>omega
         case rel=>exact ⟨j+1,_,zq110,⟨zq51 HQ2.1⟩,⟨zq9⟩,HN,HS,BF,⟨by rw [fl_succ l5 HPK.1,←HPS.1,if_pos HIN.1,List.append_nil];exact HO.1⟩⟩
        |false=>
         have HIN:=zz hin
         clear hin
         go_wp2_with (first|((with_reducible refine (hasS _ _ _ _ _ KW.1 b5).mono ?_);rintro e w1 ⟨rfl,rfl⟩;rw [HIN.1])|((with_reducible refine zea (b:= .append) (xs:= #[.tmp 74,.tmp 76]) rfl ?_);at_builtin;refine fb_app rfl (.tmp 74) (.tmp 76) rfl rfl rfl HN.1 HS.1 BF.1 HO.1 hGF hpl ?_;intro v1 w4 HN4 HS4 BF4 HO4;obtain ⟨A9,c9,rfl⟩:=Kd.R_slice HO4.1;obtain ⟨nn,hnn⟩:∃m,m=(ps++[p]).length:=⟨_,rfl⟩;simp only [←hnn] at HO4 ⊢;clear hp3 z1 hf1 pc hA9 hnn)|((with_reducible refine zm (t:=29) (p:=78) rfl ?_);refine zT rfl 29 _ _ rfl rfl gF 1 (.slice A9 nn c9) (.slice Ap ps.length cp) [.int .i64 el.f0] [] rfl rfl BF4.1 rfl rfl zq13 rfl rfl ?_;intro W5 hp hn;have HN5:=zz (HN4.1.other hp hGF);have HS5:=zz (putS HS4.1 hp (fun k h e=>by omega));have BF5:=zz hn;have HO5:=zz (R_put1 HO4.1 hp (fun k h e=>by omega));clear hp hn))
         go_roundg k2
         case measure=>omega
         case rel=>exact ⟨j+1,_,zq110,⟨zq51 HQ2.1⟩,⟨zq9⟩,HN5,HS5,BF5,⟨by rw [fl_succ l5 HPK.1,←HPS.1,if_neg (by rw [HIN.1];decide)];exact HO5.1⟩⟩
      ·have d1:decide ((j:Int)<(el.f1.length:Int))=false:=z7 zq9
       have hps2:ps=el.f1.filter (kp l5):=by rw [HPS.1,show j=el.f1.length by have:=HJ.1;omega,List.take_length]
       have HPS2:=zz hps2
       have hf0:wr.cell? ⟨gF,0,none⟩=some (.int .i64 el.f0):=(zj BF.1 0).trans rfl
       have hg3:wr.cell? ⟨w.heap.size+1+1,3,none⟩=some (.slice Av fs.length cv):=(zj HN.1.B 3).trans rfl
       clear hps2
       by_cases hpos:0<ps.length
       ·have g1:decide ((0:Int)<(ps.length:Int))=true:=z6 zq9
        have g2:=z6 hpos
        go_wp2_with (first|((with_reducible refine zea (b:= .append) (xs:= #[.tmp 84,.tmp 86]) rfl ?_);at_builtin;refine nm_app (p:=(⟨el.f0,ps⟩:S112)) (okp:=fun k=>gF<k) rfl (.tmp 84) (.tmp 86) rfl rfl rfl HN.1 (Kd.S_mono HS.1 (fun k hk=>⟨hk.1,zq9⟩)) (zyb _ _ _ (⟨el.f0,ps⟩:S112) HO.1) (fun k hk=>by omega) hfl ?_;intro v1 w4 HN4 HS4;obtain ⟨A9,c9,rfl⟩:=Kd.S_slice HS4.1;obtain ⟨nn,hnn⟩:∃m,m=(fs++[(⟨el.f0,ps⟩:S112)]).length:=⟨_,rfl⟩;simp only [←hnn] at HS4 ⊢;clear hg3 hf0 hf1 hp3 z1 hnn)|((with_reducible refine zm (t:=38) (p:=88) rfl ?_);refine zT rfl 38 _ _ rfl rfl (w.heap.size+1+1) 3 (.slice A9 nn c9) (.slice Av fs.length cv) [.int .i64 (tx),.int .i64 n,.int .i64 l2] [] rfl rfl HN4.1.B rfl rfl zq13 rfl rfl ?_;intro W5 hp hn;have HN5:=zz (HN4.1.put hp hn);have HS5:=zz (putS HS4.1 hp (fun k h e=>by omega));clear hp hn))
        go_roundg k1
        case measure=>omega
        case rel=>exact ⟨i+1,_,zq110,⟨zq115⟩,⟨zq9⟩,HN5,⟨by rw [nmF_succ l5 HE.1,←HFS.1,←HPS2.1,if_pos hpos];exact HS5.1⟩⟩
       ·have g1:decide ((0:Int)<(ps.length:Int))=false:=z7 zq9
        have g2:=z7 hpos
        go_wp2
        go_roundg k1
        case measure=>omega
        case rel=>exact ⟨i+1,_,zq110,⟨zq115⟩,⟨zq9⟩,HN,⟨by rw [nmF_succ l5 HE.1,←HFS.1,←HPS2.1,if_neg hpos,List.append_nil];exact Kd.S_mono HS.1 (fun k hk=>hk.1)⟩⟩
   ·have e1:decide ((i:Int)<(x.f3.length:Int))=false:=z7 zq9
    have hfx:fs=nmF l5 x.f3:=by rw [HFS.1,show i=x.f3.length by have:=HI.1;omega,List.take_length]
    have HFX:=zz hfx
    clear hfx
    obtain ⟨T,hT⟩:∃T,T=wr.heap.size:=⟨_,rfl⟩
    replace HS:=zz (Kd.S_mono (Kd.S_bound HS.1) (ok':=fun k=>w.heap.size+1+1<k∧k<T) (fun k hk=>⟨hk.1,by rw [hT];exact hk.2.2.1⟩))
    have HGT:=zz (show w.heap.size+1+1<T from by rw [hT];exact zP HN.1.B)
    go_upto_region 16 with (fail)
    clear hp3 e1
    go_cut [9] (fun v9 w'=>∃(g9:Nat) (vo:Value),v9= .pointer (some ⟨g9,0,none⟩)∧Z0 (NB w w' [.int .i64 x.f0,.int .i64 x.f1,.int .i64 x.f2,.slice AF x.f3.length cF,.slice A0 l0.length c0,.slice A1 l1.length c1,.int .i64 l2,.slice A3 l3.length c3,.slice A4 l4.length c4,.slice A5 l5.length c5,.int .i64 n] (w.heap.size+1+1) [.int .i64 (tx),.int .i64 n,.int .i64 l2] (.slice Av fs.length cv))∧Z0 (Kd.S k112 112 w' w.heap.size (fun k=>w.heap.size+1+1<k∧k<T) (.slice Av fs.length cv) fs)∧Z0 (w'.heap[g9]?=some (.cells ([.int .i64 tx,vo]:List Value).toArray 112 (0,0)))∧Z0 (Kd.R (Kd.int .i64) 3 w' w.heap.size (fun k=>T≤k∧k≠g9) vo l4)∧Z0 (T≤g9)∧Z0 (w.heap.size+1+1<T))
    case first=>
     refine zfa specNM_ok16 (S:=fun w'=>w'.heap[w.heap.size]?=some (.cells ([.int .i64 x.f0,.int .i64 x.f1,.int .i64 x.f2,.slice AF x.f3.length cF,.slice A0 l0.length c0,.slice A1 l1.length c1,.int .i64 l2,.slice A3 l3.length c3,.slice A4 l4.length c4,.slice A5 l5.length c5,.int .i64 n]:List Value).toArray 46 (0,0))∧w'.heap[w.heap.size+1+1]?=some (.cells (([.int .i64 (tx),.int .i64 n,.int .i64 l2]:List Value)++(([.slice Av fs.length cv]:List Value)++[])).toArray 40 (0,0))∧True) zq13 (fun _ _ _ _ h=>h) ⟨(HN.1.step (z1a _ _).drew).A,(HN.1.step (z1a _ _).drew).B,trivial⟩ (fun hHeld=> ?_)
     have HD:=zz (z1a wr.heap.size wr).drew
     generalize wr.drew=wd at HD hHeld ⊢
     replace HN:=zz (HN.1.step HD.1)
     replace HS:=zz (Kd.S_below HS.1 HD.1)
     have HT:=zz (show T≤wd.heap.size from by rw [hT];exact HD.1.size)
     clear HD hT
     (refine zM (v:= ?_) (a':= ?_) rfl rfl (Or.inl ⟨zq22,zq12⟩) zq2 ?_)
     refine zL (a':= ?_) rfl rfl zq22 3 _ rfl (w.heap.size+1+1) 0 [] (.int .i64 tx) [.int .i64 n,.int .i64 l2,.slice Av fs.length cv] _ rfl (fun w' hs=>hs.2.1) rfl rfl Tryz.underlying3 rfl ?_ ?_
     rotate_left;(· show Act.put _ (some _) _=_;simp only [Act.put,s_A,s_0,s_1,zKa];try rfl)
     (refine zM (v:= ?_) (a':= ?_) rfl rfl (Or.inl ⟨zq22,zq12⟩) zq2 ?_)
     (refine zM (v:= ?_) (a':= ?_) rfl rfl (Or.inl ⟨zq22,zq12⟩) zq2 ?_)
     refine zL (a':= ?_) rfl rfl zq22 29 _ rfl w.heap.size 8 [.int .i64 x.f0,.int .i64 x.f1,.int .i64 x.f2,.slice AF x.f3.length cF,.slice A0 l0.length c0,.slice A1 l1.length c1,.int .i64 l2,.slice A3 l3.length c3] (.slice A4 l4.length c4) [.slice A5 l5.length c5,.int .i64 n] _ rfl (fun w' hs=>hs.1) rfl rfl Tryz.underlying29 rfl ?_ ?_
     rotate_left;(· show Act.put _ (some _) _=_;simp only [Act.put,s_A,s_0,s_1,zKa];try rfl)
     refine zob rfl rfl (ev1_lit0g rfl zq22 29 3 rfl Tryz.underlying29 1 zq13 ?_) (zAa rfl zq22 112 rfl [.int .i64 0,.slice none 0 0] zq13 ?_)
     ·
      obtain ⟨WL,hWL⟩:∃WL,WL=(wd.alloc (.cells #[] 3)):=⟨_,rfl⟩
      have HBL:=zz (show Below wd.heap.size wd WL from by rw [hWL];exact zo (z1a _ _) _)
      have HO:=zz (show Kd.R (Kd.int .i64) 3 WL w.heap.size (fun k=>T≤k) (.slice (some ⟨wd.heap.size,0,none⟩) 0 0) [] from by rw [hWL];exact R_made0 _ _ _ _ _ HN.1.bel.size HT.1)
      rw [←hWL]
      replace HN:=zz (HN.1.step HBL.1)
      replace HS:=zz (Kd.S_below HS.1 HBL.1)
      replace HT:=zz (z5a HT.1 HBL.1.size)
      clear hWL HBL
      refine ⟨⟨HN.1.A,HN.1.B,trivial⟩,(fun hHeld=> ?_)⟩
      refine zw (a':= ?_) zq2 ?_
      refine zob rfl rfl (ev1_approw_i rfl zq22 _ _ rfl rfl rfl HN.1 HS.1 HO.1 (Kd.C_below KG.1.2 HN.1.bel) ⟨HT.1,HGT.1⟩ b4 ?_) (zAa rfl zq22 112 rfl [.int .i64 0,.slice none 0 0] zq13 ?_)
      ·
       intro v1 w4 HN4 HS4 HO4 HT4 HB4
       obtain ⟨Ao,co,rfl⟩:=Kd.R_slice HO4.1
       replace HN:=HN4
       replace HS:=HS4
       replace HT:=zz (z5a HT.1 HT4.1)
       replace HO:=HO4
       clear HN4 HS4 HO4 HT4 HB4
       refine ⟨⟨HN.1.A,HN.1.B,trivial⟩,(fun hHeld=> ?_)⟩
       refine zw (a':= ?_) zq2 ?_
       (refine zM (v:= ?_) (a':= ?_) rfl rfl (Or.inl ⟨zq22,zq12⟩) zq2 ?_)
       refine zS rfl (zAa rfl zq22 112 rfl [.int .i64 0,.slice none 0 0] zq13 ?_)
       obtain ⟨W8,hW8⟩:∃W8,W8=(w4.alloc (.cells #[.int .i64 0,.slice none 0 0] 112)):=⟨_,rfl⟩
       have HB8:=zz (show Below w4.heap.size w4 W8 from by rw [hW8];exact zo (z1a _ _) _)
       have H9:=zz (show W8.heap[w4.heap.size]?=some (.cells ([.int .i64 0,.slice none 0 0]:List Value).toArray 112 (0,0)) from by rw [hW8];exact zqa _ _)
       replace hW8:=hW8.symm
       have hW8_:=zz hW8
       clear hW8
       obtain ⟨g9,hg9⟩:∃g,g=w4.heap.size:=⟨_,rfl⟩
       have HG9:=zz (show T≤g9 from by rw [hg9];exact HT.1)
       simp only [hW8_.out,←hg9]
       rw [←hg9] at H9
       replace HN:=zz (HN.1.step HB8.1)
       replace HS:=zz (Kd.S_below HS.1 HB8.1)
       replace HT:=zz (z5a HT.1 HB8.1.size)
       replace HO:=zz (Kd.R_below HO.1 HB8.1)
       clear hW8_ HB8 hg9
       refine ⟨⟨HN.1.A,HN.1.B,trivial⟩,(fun hHeld=> ?_)⟩
       refine zw (a':= ?_) zq2 ?_
       exact zq147
      ·
       obtain ⟨W8,hW8⟩:∃W8,W8=(WL.alloc (.cells #[.int .i64 0,.slice none 0 0] 112)):=⟨_,rfl⟩
       have HB8:=zz (show Below WL.heap.size WL W8 from by rw [hW8];exact zo (z1a _ _) _)
       have H9:=zz (show W8.heap[WL.heap.size]?=some (.cells ([.int .i64 0,.slice none 0 0]:List Value).toArray 112 (0,0)) from by rw [hW8];exact zqa _ _)
       replace hW8:=hW8.symm
       have hW8_:=zz hW8
       clear hW8
       obtain ⟨g9,hg9⟩:∃g,g=WL.heap.size:=⟨_,rfl⟩
       have HG9:=zz (show T≤g9 from by rw [hg9];exact HT.1)
       simp only [hW8_.out,←hg9]
       rw [←hg9] at H9
       replace HN:=zz (HN.1.step HB8.1)
       replace HS:=zz (Kd.S_below HS.1 HB8.1)
       replace HT:=zz (z5a HT.1 HB8.1.size)
       replace HO:=zz (Kd.R_below HO.1 HB8.1)
       clear hW8_ HB8 hg9
       exact zq181
     ·
      obtain ⟨W8,hW8⟩:∃W8,W8=(wd.alloc (.cells #[.int .i64 0,.slice none 0 0] 112)):=⟨_,rfl⟩
      have HB8:=zz (show Below wd.heap.size wd W8 from by rw [hW8];exact zo (z1a _ _) _)
      have H9:=zz (show W8.heap[wd.heap.size]?=some (.cells ([.int .i64 0,.slice none 0 0]:List Value).toArray 112 (0,0)) from by rw [hW8];exact zqa _ _)
      replace hW8:=hW8.symm
      have hW8_:=zz hW8
      clear hW8
      obtain ⟨g9,hg9⟩:∃g,g=wd.heap.size:=⟨_,rfl⟩
      have HG9:=zz (show T≤g9 from by rw [hg9];exact HT.1)
      simp only [hW8_.out,←hg9]
      rw [←hg9] at H9
      replace HN:=zz (HN.1.step HB8.1)
      replace HS:=zz (Kd.S_below HS.1 HB8.1)
      replace HT:=zz (z5a HT.1 HB8.1.size)
      clear hW8_ HB8 hg9
      refine ⟨⟨HN.1.A,HN.1.B,trivial⟩,(fun hHeld=> ?_)⟩
      refine zw (a':= ?_) zq2 ?_
      refine zS rfl (ev1_lit0g rfl zq22 29 3 rfl Tryz.underlying29 1 zq13 ?_)
      obtain ⟨WL,hWL⟩:∃WL,WL=(W8.alloc (.cells #[] 3)):=⟨_,rfl⟩
      have HBL:=zz (show Below W8.heap.size W8 WL from by rw [hWL];exact zo (z1a _ _) _)
      have HO:=zz (show Kd.R (Kd.int .i64) 3 WL w.heap.size (fun k=>T≤k) (.slice (some ⟨W8.heap.size,0,none⟩) 0 0) [] from by rw [hWL];exact R_made0 _ _ _ _ _ HN.1.bel.size HT.1)
      rw [←hWL]
      replace HN:=zz (HN.1.step HBL.1)
      replace HS:=zz (Kd.S_below HS.1 HBL.1)
      replace HT:=zz (z5a HT.1 HBL.1.size)
      replace H9:=zz (zg H9.1 HBL.1)
      clear hWL HBL
      exact zq181
    case rest=>
     clear HN HS HGT
     obtain ⟨g9,vo,rfl,HN,HS,H9,HO,HG9,HGT⟩:=hcut
     go_wp2_with fail
     go_loopg [10] (l3.length+1) (fun kq v0 w'=>∃(j:Nat) (vo:Value),v0= .int .i64 (j:Int)∧Z0 (kq+j=l3.length+1)∧Z0 (j≤l3.length)∧Z0 (NB w w' [.int .i64 x.f0,.int .i64 x.f1,.int .i64 x.f2,.slice AF x.f3.length cF,.slice A0 l0.length c0,.slice A1 l1.length c1,.int .i64 l2,.slice A3 l3.length c3,.slice A4 l4.length c4,.slice A5 l5.length c5,.int .i64 n] (w.heap.size+1+1) [.int .i64 (tx),.int .i64 n,.int .i64 l2] (.slice Av fs.length cv))∧Z0 (Kd.S k112 112 w' w.heap.size (fun k=>w.heap.size+1+1<k∧k<T) (.slice Av fs.length cv) fs)∧Z0 (w'.heap[g9]?=some (.cells ([.int .i64 tx,vo]:List Value).toArray 112 (0,0)))∧Z0 (Kd.R (Kd.int .i64) 3 w' w.heap.size (fun k=>T≤k∧k≠g9) vo (l4++(l3.take j).filter (fun p=>decide (x.f2≤p)))))
     case atStart=>exact ⟨0,_,rfl,⟨zq9⟩,⟨z0b _⟩,HN,HS,H9,⟨by rw [List.take_zero,List.filter_nil,List.append_nil];exact HO.1⟩⟩
     case round=>
      clear HN HS H9 HO
      obtain ⟨j,vo,rfl,HQ2,HJ,HN,HS,H9,HO⟩:=hrel
      obtain ⟨xs,hxs⟩:∃xs,xs=l4++(l3.take j).filter (fun p=>decide (x.f2≤p)):=⟨_,rfl⟩
      have hxl:xs.length≤4000000:=zq206
      rw [←hxs] at HO
      have HXS:=zz hxs
      clear hxs
      obtain ⟨Ao,co,rfl⟩:=Kd.R_slice HO.1
      have hA7:wr.cell? ⟨w.heap.size,7,none⟩=some (.slice A3 l3.length c3):=(zj HN.1.A 7).trans rfl
      by_cases hlt:j<l3.length
      ·have d1:decide ((j:Int)<(l3.length:Int))=true:=z6 zq9
       have d0:decide ((0:Int)≤(j:Int))=true:=z6 zq9
       have d2:((j:Int)<(l3.length:Int))=True:=eq_true zq9
       have d3:((0:Int)≤(j:Int))=True:=eq_true zq9
       cases gk with
       |zero=>exact absurd HQ2.1 zq9
       |succ k2=>
        obtain ⟨ap,hAp,pc⟩:=C_at KU.1 hlt
        subst hAp
        obtain ⟨p,hp⟩:∃p,p=l3[j]:=⟨_,rfl⟩
        rw [←hp] at pc
        have HPK:=zz (show l3[j]?=some p from by rw [hp];exact List.getElem?_eq_getElem hlt)
        have pcw:=zz pc
        clear hp
        replace pc:=zi pc HN.1.bel
        have hA2:wr.cell? ⟨w.heap.size,2,none⟩=some (.int .i64 x.f2):=(zj HN.1.A 2).trans rfl
        by_cases hp:x.f2≤p
        ·have g1:=z6 hp
         go_upto_region 20 with (fail)
         go_quiet (fail)
         obtain ⟨W2,hW2⟩:∃W2,W2=wr.drewN nq:=⟨_,rfl⟩
         have HB2:=zz (show Below wr.heap.size wr W2 from by rw [hW2];exact zrb _ _)
         rw [←hW2]
         clear hW2 hA7 hA2 pc
         replace HN:=zz (HN.1.step HB2.1)
         replace HS:=zz (Kd.S_below HS.1 HB2.1)
         replace H9:=zz (zg H9.1 HB2.1)
         replace HO:=zz (Kd.R_below HO.1 HB2.1)
         clear HB2
         go_upto_region 21 with (fail)
         have HD:=zz (z1a W2.heap.size W2).drew
         replace HN:=zz (HN.1.step HD.1)
         replace HS:=zz (Kd.S_below HS.1 HD.1)
         replace H9:=zz (zg H9.1 HD.1)
         replace HO:=zz (Kd.R_below HO.1 HD.1)
         clear HD
         refine zMa specNM_w.ok21_0 (S:=fun w'=>w'.cell? ⟨g9,1,none⟩=some (.slice Ao xs.length co)∧w'.cell? ⟨w.heap.size,7,none⟩=some (.slice (some ap) l3.length c3)∧w'.cell? (ap.add j)=some (.int .i64 p)) zq13 (fun _ _ _ _ h=>h) ⟨(zj H9.1 1).trans rfl,(zj HN.1.A 7).trans rfl,zi pcw.out HN.1.bel⟩ (fun hHeld=> ?_)
         generalize W2.drew=wd at HN HS H9 HO hHeld ⊢
         (refine zpa (v:= ?_) (a':= ?_) rfl rfl (Or.inl ⟨zq22,zq12⟩) zq3 ?_)
         (refine zbb (v:= ?_) (a':= ?_) rfl rfl (Or.inl ⟨zq22,zq99⟩) zq3 ?_)
         iterate 2 (refine zpa (v:= ?_) (a':= ?_) rfl rfl (Or.inl ⟨zq22,zq12⟩) zq3 ?_)
         (refine zbb (v:= ?_) (a':= ?_) rfl rfl (Or.inl ⟨zq22,zq99⟩) zq3 ?_)
         iterate 2 (refine zpa (v:= ?_) (a':= ?_) rfl rfl (Or.inl ⟨zq22,zq12⟩) zq3 ?_)
         (refine zbb (v:= ?_) (a':= ?_) rfl rfl (Or.inl ⟨zq22,zq99⟩) zq3 ?_)
         refine seq_e rfl rfl (fun K hK=> ?_)
         refine value_ (w1:= ?_) (v:= ?_) zq22 rfl ?_ ?_
         rotate_left 2
         ·go_simp
          constructor
          ·rfl
          ·rfl
         refine hK.out _ _ ⟨(zj (zh H9.1 _) 1).trans rfl,(zj (HN.1.step (zo (z1a _ _) _)).A 7).trans rfl,zi pcw.out (HN.1.step (zo (z1a _ _) _)).bel⟩ (fun hHeld=> ?_)
         clear hK K
         refine zha (a':= ?_) zq3 ?_
         refine seq_e rfl rfl (fun K hK=> ?_)
         refine Kd.R_append_step (Kd.int .i64) (w0:=w) (W:=wd) w.heap.size zq22 (.tmp 116) (.tmp 123) 29 3 (.int .i64 0) 8 rfl Tryz.underlying29 info3 rfl zq31 zq31 (.slice Ao xs.length co) xs p [.int .i64 p] (fun k=>T≤k∧k≠g9) (fun _=>False) rfl rfl rfl (fun _ h=>h.elim) (fun k hk=>by have:=zP H9.1;have:=HG9.1;omega) HO.1 HN.1.bel HN.1.bel.size zq9 ?_
         intro v1 w4 hr hb hg hat
         have hown:∀k,(Value.slice Ao xs.length co).ownBlock=some k→T≤k∧k≠g9:=HO.1.1
         have HN4:=zz (HN.1.grown hg (fun k hk=>by have:=(hown k hk).1;have:=HGT.1;omega))
         have HS4:=zz (Kd.S_grown HS.1 hg (fun k hk e=>by have:=(hown k e.symm).1;have:=hk.2;omega))
         have H94:=zz (zK H9.1 hg (fun e=>(hown _ e.symm).2 rfl))
         obtain ⟨A2,c11,rfl⟩:=Kd.R_slice hr
         have HO4:=zz hr
         obtain ⟨nn,hnn⟩:∃m,m=(xs++[p]).length:=⟨_,rfl⟩
         simp only [←hnn] at HO4 ⊢
         clear hr hb hg hat hown hnn
         refine hK.out _ _ ⟨(zj H94.1 1).trans rfl,(zj HN4.1.A 7).trans rfl,zi pcw.out HN4.1.bel⟩ (fun hHeld=> ?_)
         clear hK K
         refine zha (a':= ?_) zq3 ?_
         (refine zpa (v:= ?_) (a':= ?_) rfl rfl (Or.inl ⟨zq22,zq12⟩) zq3 ?_)
         refine zdc rfl rfl zq22 29 _ _ rfl g9 1 (.slice A2 nn c11) (.slice Ao xs.length co) [.int .i64 tx] [] rfl rfl H94.1 zq22 rfl zq13 rfl rfl (fun W hp hn=> ?_)
         have HN5:=zz (HN4.1.other hp (by have:=HG9.1;have:=HGT.1;omega))
         have HS5:=zz (putS HS4.1 hp (fun k h e=>by have:=HG9.1;have:=h.2;omega))
         have H95:=zz hn
         have HO5:=zz (R_put1 HO4.1 hp (fun k hk=>hk.2))
         clear hp hn HN4 HS4 H94 HO4
         refine zZa ?_
         clear hHeld
         go_wp2
         go_roundg k2
         case measure=>omega
         case rel=>exact ⟨j+1,_,zq110,⟨zq51 HQ2.1⟩,⟨zq9⟩,HN5,HS5,H95,⟨by rw [own_succ x.f2 HPK.1,←HXS.1,if_pos hp];exact HO5.1⟩⟩
        ·have g1:=z7 hp
         go_upto_region 20 with (fail)
         go_quiet (fail)
         obtain ⟨W2,hW2⟩:∃W2,W2=wr.drewN nq:=⟨_,rfl⟩
         have HB2:=zz (show Below wr.heap.size wr W2 from by rw [hW2];exact zrb _ _)
         rw [←hW2]
         clear hW2 hA7 hA2 pc
         replace HN:=zz (HN.1.step HB2.1)
         replace HS:=zz (Kd.S_below HS.1 HB2.1)
         replace H9:=zz (zg H9.1 HB2.1)
         replace HO:=zz (Kd.R_below HO.1 HB2.1)
         clear HB2
         go_wp2
         go_roundg k2
         case measure=>omega
         case rel=>exact ⟨j+1,_,zq110,⟨zq51 HQ2.1⟩,⟨zq9⟩,HN,HS,H9,⟨by rw [own_succ x.f2 HPK.1,←HXS.1,if_neg zq9,List.append_nil];exact HO.1⟩⟩
      ·have d1:decide ((j:Int)<(l3.length:Int))=false:=z7 zq9
       have hsx:srt xs=nmOwn x.f2 l3 l4:=by rw [HXS.1,show j=l3.length by have:=HJ.1;omega,List.take_length];rfl
       have HSX:=zz hsx
       have KS:=zz (Kd.R_reads' HO.1).2.2
       have h91:wr.cell? ⟨g9,1,none⟩=some (.slice Ao xs.length co):=(zj H9.1 1).trans rfl
       clear hsx
       go_wp2_with fail
       (with_reducible refine (l07Sorted_calls Ao co xs _ KS.1 hxl).mono ?_)
       rintro e w5 ⟨B,d,rfl,ho,hb⟩
       have HO5:=zz (R_ints (ok':=fun k=>T≤k∧k≠g9) (Kd.R_lower ho HN.1.bel.size) (fun k hk=>by have h1:=Kd.R_base ho k hk;have h2:=zP H9.1;have h3:=HG9.1;omega))
       have HN5:=zz (HN.1.step hb)
       have HS5:=zz (Kd.S_below HS.1 hb)
       have H95:=zz (zg H9.1 hb)
       clear ho hb HO HN HS H9 d1 h91 hA7 KS
       go_upto_region 23 with ((with_reducible refine zm (t:=29) (p:=129) rfl ?_);refine zT rfl 29 _ _ rfl rfl g9 1 (.slice B xs.length d) (.slice Ao xs.length co) [.int .i64 tx] [] rfl rfl H95.1 rfl rfl zq13 rfl rfl ?_;intro W6 hp hn;have HN6:=zz (HN5.1.other hp (by have:=HG9.1;have:=HGT.1;omega));have HS6:=zz (putS HS5.1 hp (fun k h e=>by have:=HG9.1;have:=h.2;omega));have H96:=zz hn;have HO6:=zz (R_put1 HO5.1 hp (fun k hk=>hk.2));clear hp hn)
       have h90:W6.cell? ⟨g9,0,none⟩=some (.int .i64 tx):=(zj H96.1 0).trans rfl
       have h91:W6.cell? ⟨g9,1,none⟩=some (.slice B xs.length d):=(zj H96.1 1).trans rfl
       have hg3:W6.cell? ⟨w.heap.size+1+1,3,none⟩=some (.slice Av fs.length cv):=(zj HN6.1.B 3).trans rfl
       by_cases hpos:0<xs.length
       ·have g1:decide ((0:Int)<(xs.length:Int))=true:=z6 zq9
        have g2:=z6 hpos
        have hmf:(nmM (tx) n l2 x l3 l4 l5).f3=fs++[(⟨tx,srt xs⟩:S112)]:=by
         show nmF l5 x.f3++_=_
         rw [←HSX.1,←HFX.1,if_pos (by rw [srt_len];exact hpos)]
        have HMF:=zz hmf
        clear hmf
        go_upto_region 25 with (first|((with_reducible refine zea (b:= .append) (xs:= #[.tmp 135,.tmp 137]) rfl ?_);at_builtin;refine nm_app (p:=(⟨tx,srt xs⟩:S112)) (okp:=fun k=>T≤k∧k≠g9) rfl (.tmp 135) (.tmp 137) rfl rfl rfl HN6.1 (Kd.S_mono HS6.1 (fun k hk=>⟨hk.1,fun h=>by have:=h.1;omega⟩)) (zyb _ _ _ (⟨tx,srt xs⟩:S112) HO6.1) (fun k hk=>by have:=HGT.1;omega) hfl ?_;intro v1 w6 HN7_ HS7_;obtain ⟨A9,c9,rfl⟩:=Kd.S_slice HS7_.1;obtain ⟨nn,hnn⟩:∃m,m=(fs++[(⟨tx,srt xs⟩:S112)]).length:=⟨_,rfl⟩;simp only [←hnn] at HS7_ ⊢;clear hg3 h90 h91;clear hnn)|((with_reducible refine zm (t:=38) (p:=139) rfl ?_);refine zT rfl 38 _ _ rfl rfl (w.heap.size+1+1) 3 (.slice A9 nn c9) (.slice Av fs.length cv) [.int .i64 (tx),.int .i64 n,.int .i64 l2] [] rfl rfl HN7_.1.B rfl rfl zq13 rfl rfl ?_;intro W7 hp hn;have HN7:=zz (HN7_.1.put hp hn);have HS7:=zz (putS HS7_.1 hp (fun k h e=>by omega));clear hp hn))
        have hsl:=Kd.S_reads' HS7.1
        obtain ⟨hs1,hs2,hs3⟩:=hsl
        have HK:=zz (show k40.K W7 (nmM (tx) n l2 x l3 l4 l5) [.int .i64 (tx),.int .i64 n,.int .i64 l2,.slice A9 nn c9] from by have h:=k40_mk (A3:=A9) (c3:=c9) W7 (nmM (tx) n l2 x l3 l4 l5) (by rw [HMF.1,←hs1];exact hs2) (by rw [HMF.1];exact hs3);rwa [HMF.1,←hs1] at h)
        have HSM:=zz (show Kd.S k112 112 W7 w.heap.size (fun k=>w.heap.size+1+1<k) (.slice A9 nn c9) (nmM (tx) n l2 x l3 l4 l5).f3 from by rw [HMF.1];exact HS7.1)
        clear hs1 hs2 hs3
        cases b with
        |false=>
         go_wp2_with (first|((with_reducible refine zd (N:=141) rfl ?_);refine zf rfl 40 _ rfl (w.heap.size+1+1) 0 [] [.int .i64 (tx),.int .i64 n,.int .i64 l2,.slice A9 nn c9] [] _ rfl HN7.1.B rfl rfl Tryz.underlying40 rfl zq13 ?_)|((with_reducible refine (zXa HV.1 _ t false _ HK.1 HM.1).mono ?_);rintro e w8 ⟨rfl,hb⟩;have HN8:=zz (HN7.1.step hb);have HS8:=zz (Kd.S_below HSM.1 hb);clear hb)|((with_reducible refine zm (t:=40) (p:=2) rfl ?_);refine zn rfl 40 _ _ rfl rfl (w.heap.size+1) 0 [.int .i64 0,.int .i64 0,.int .i64 0,.slice none 0 0] [] [.int .i64 0,.int .i64 0,.int .i64 0,.slice none 0 0] [] rfl rfl HN8.1.R rfl rfl rfl zq13 (fun v hv=>by simp only [List.mem_cons,List.not_mem_nil,or_false] at hv;rcases hv with rfl|rfl|rfl|rfl<;>rfl) ?_;intro W9 hp hn;have HR9:=zz hn;have HP9:=zz hp;clear hp hn))
         refine bodyPost_ret (zG (rs:=[.cell 2 40,.tmp 3]) rfl zq38 (.cell (w.heap.size+1) 40 _ _ _ rfl HR9.1 Tryz.underlying40 rfl zq13 (.tmp .nil))) rfl ?_
         have hb9:=HP9.1.below w zq9 HN8.1.bel
         exact ⟨_,rfl,zlb _ _ _ (⟨0,0,0,[]⟩:S40) (Kd.S_nil _ _ _ _ _),hb9⟩
        |true=>
         go_wp2_with (first|((with_reducible refine zd (N:=141) rfl ?_);refine zf rfl 40 _ rfl (w.heap.size+1+1) 0 [] [.int .i64 (tx),.int .i64 n,.int .i64 l2,.slice A9 nn c9] [] _ rfl HN7.1.B rfl rfl Tryz.underlying40 rfl zq13 ?_)|((with_reducible refine (zXa HV.1 _ t true _ HK.1 HM.1).mono ?_);rintro e w8 ⟨rfl,hb⟩;have HN8:=zz (HN7.1.step hb);have HS8:=zz (Kd.S_below HSM.1 hb);clear hb)|((with_reducible refine zd (N:=148) rfl ?_);refine zf rfl 40 _ rfl (w.heap.size+1+1) 0 [] [.int .i64 (tx),.int .i64 n,.int .i64 l2,.slice A9 nn c9] [] _ rfl HN8.1.B rfl rfl Tryz.underlying40 rfl zq13 ?_)|((with_reducible refine zm (t:=40) (p:=2) rfl ?_);refine zn rfl 40 _ _ rfl rfl (w.heap.size+1) 0 [.int .i64 (tx),.int .i64 n,.int .i64 l2,.slice A9 nn c9] [] [.int .i64 0,.int .i64 0,.int .i64 0,.slice none 0 0] [] rfl rfl HN8.1.R rfl rfl rfl zq13 (fun v hv=>by simp only [List.mem_cons,List.not_mem_nil,or_false] at hv;rcases hv with rfl|rfl|rfl|rfl<;>rfl) ?_;intro W9 hp hn;have HR9:=zz hn;have HP9:=zz hp;clear hp hn))
         refine bodyPost_ret (zG (rs:=[.cell 2 40,.tmp 3]) rfl zq38 (.cell (w.heap.size+1) 40 _ _ _ rfl HR9.1 Tryz.underlying40 rfl zq13 (.tmp .nil))) rfl ?_
         have hb9:=HP9.1.below w zq9 HN8.1.bel
         have hS:=putS HS8.1 HP9.1 (fun k h e=>by omega)
         exact ⟨_,rfl,zlb _ _ _ (nmM (tx) n l2 x l3 l4 l5) (Kd.S_mono (Kd.S_bound hS) (fun k hk=>⟨hk.2.1,hk.2.2.1⟩)),hb9⟩
       ·have g1:decide ((0:Int)<(xs.length:Int))=false:=z7 zq9
        have g2:=z7 hpos
        have hmf:(nmM (tx) n l2 x l3 l4 l5).f3=fs:=by
         show nmF l5 x.f3++_=_
         rw [←HSX.1,←HFX.1,if_neg (by rw [srt_len];exact hpos),List.append_nil]
        have HMF:=zz hmf
        clear hmf
        go_upto_region 25 with (fail)
        clear hg3 h90 h91
        have hsl:=Kd.S_reads' HS6.1
        obtain ⟨hs1,hs2,hs3⟩:=hsl
        have HK:=zz (show k40.K W6 (nmM (tx) n l2 x l3 l4 l5) [.int .i64 (tx),.int .i64 n,.int .i64 l2,.slice Av fs.length cv] from by have h:=k40_mk (A3:=Av) (c3:=cv) W6 (nmM (tx) n l2 x l3 l4 l5) (by rw [HMF.1];exact hs2) (by rw [HMF.1];exact hs3);rwa [HMF.1] at h)
        have HSM:=zz (show Kd.S k112 112 W6 w.heap.size (fun k=>w.heap.size+1+1<k) (.slice Av fs.length cv) (nmM (tx) n l2 x l3 l4 l5).f3 from by rw [HMF.1];exact Kd.S_mono HS6.1 (fun k hk=>hk.1))
        clear hs1 hs2 hs3
        cases b with
        |false=>
         go_wp2_with (first|((with_reducible refine zd (N:=141) rfl ?_);refine zf rfl 40 _ rfl (w.heap.size+1+1) 0 [] [.int .i64 (tx),.int .i64 n,.int .i64 l2,.slice Av fs.length cv] [] _ rfl HN6.1.B rfl rfl Tryz.underlying40 rfl zq13 ?_)|((with_reducible refine (zXa HV.1 _ t false _ HK.1 HM.1).mono ?_);rintro e w8 ⟨rfl,hb⟩;have HN8:=zz (HN6.1.step hb);have HS8:=zz (Kd.S_below HSM.1 hb);clear hb)|((with_reducible refine zm (t:=40) (p:=2) rfl ?_);refine zn rfl 40 _ _ rfl rfl (w.heap.size+1) 0 [.int .i64 0,.int .i64 0,.int .i64 0,.slice none 0 0] [] [.int .i64 0,.int .i64 0,.int .i64 0,.slice none 0 0] [] rfl rfl HN8.1.R rfl rfl rfl zq13 (fun v hv=>by simp only [List.mem_cons,List.not_mem_nil,or_false] at hv;rcases hv with rfl|rfl|rfl|rfl<;>rfl) ?_;intro W9 hp hn;have HR9:=zz hn;have HP9:=zz hp;clear hp hn))
         refine bodyPost_ret (zG (rs:=[.cell 2 40,.tmp 3]) rfl zq38 (.cell (w.heap.size+1) 40 _ _ _ rfl HR9.1 Tryz.underlying40 rfl zq13 (.tmp .nil))) rfl ?_
         have hb9:=HP9.1.below w zq9 HN8.1.bel
         exact ⟨_,rfl,zlb _ _ _ (⟨0,0,0,[]⟩:S40) (Kd.S_nil _ _ _ _ _),hb9⟩
        |true=>
         go_wp2_with (first|((with_reducible refine zd (N:=141) rfl ?_);refine zf rfl 40 _ rfl (w.heap.size+1+1) 0 [] [.int .i64 (tx),.int .i64 n,.int .i64 l2,.slice Av fs.length cv] [] _ rfl HN6.1.B rfl rfl Tryz.underlying40 rfl zq13 ?_)|((with_reducible refine (zXa HV.1 _ t true _ HK.1 HM.1).mono ?_);rintro e w8 ⟨rfl,hb⟩;have HN8:=zz (HN6.1.step hb);have HS8:=zz (Kd.S_below HSM.1 hb);clear hb)|((with_reducible refine zd (N:=148) rfl ?_);refine zf rfl 40 _ rfl (w.heap.size+1+1) 0 [] [.int .i64 (tx),.int .i64 n,.int .i64 l2,.slice Av fs.length cv] [] _ rfl HN8.1.B rfl rfl Tryz.underlying40 rfl zq13 ?_)|((with_reducible refine zm (t:=40) (p:=2) rfl ?_);refine zn rfl 40 _ _ rfl rfl (w.heap.size+1) 0 [.int .i64 (tx),.int .i64 n,.int .i64 l2,.slice Av fs.length cv] [] [.int .i64 0,.int .i64 0,.int .i64 0,.slice none 0 0] [] rfl rfl HN8.1.R rfl rfl rfl zq13 (fun v hv=>by simp only [List.mem_cons,List.not_mem_nil,or_false] at hv;rcases hv with rfl|rfl|rfl|rfl<;>rfl) ?_;intro W9 hp hn;have HR9:=zz hn;have HP9:=zz hp;clear hp hn))
         refine bodyPost_ret (zG (rs:=[.cell 2 40,.tmp 3]) rfl zq38 (.cell (w.heap.size+1) 40 _ _ _ rfl HR9.1 Tryz.underlying40 rfl zq13 (.tmp .nil))) rfl ?_
         have hb9:=HP9.1.below w zq9 HN8.1.bel
         have hS:=putS HS8.1 HP9.1 (fun k h e=>by omega)
         exact ⟨_,rfl,zlb _ _ _ (nmM (tx) n l2 x l3 l4 l5) (Kd.S_mono (Kd.S_bound hS) (fun k hk=>⟨hk.2.1,hk.2.2.1⟩)),hb9⟩
end Go.Proofs.YtonhdiemjgdcnaaGreat.PFnExactGivePage
