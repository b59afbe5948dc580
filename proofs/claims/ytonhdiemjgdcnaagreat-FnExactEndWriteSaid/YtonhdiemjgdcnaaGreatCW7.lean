import Derived.Test.YtonhdiemjgdcnaaGreatCW6
set_option maxHeartbeats 64000000
set_option maxRecDepth 100000
set_option linter.unusedVariables false
set_option linter.unusedSimpArgs false
namespace Go.Proofs
theorem zq2{P:Prop}(h:P:=by show Act.put _ (some _) _=_;simp only [Act.put,s_A,s_0,s_1,zKa];try rfl):P:=h
theorem zq3{P:Prop}(h:P:=by show Act.put _ (some _) _=_;simp only [Act.put,List.setIfInBounds_toArray,List.set_cons_zero,List.set_cons_succ,zKa,i32_w];try rfl):P:=h
theorem zq6{P:Prop}(h:P:=by first|rfl|(simp only [aA,aN,aL];first|done|rfl)):P:=h
theorem zq14{P:Prop}(h:P:=by (try simp only [List.map_toArray,List.map_cons,List.map_nil]);first|done|rfl):P:=h
theorem zq72{P:Prop}(h:P:=by rw [hel];simp [zF,List.getD_eq_getElem?_getD,List.getElem?_eq_getElem hlt]):P:=h
theorem zq73{P:Prop}(h:P:=by have o:=O.1;dsimp only [Off2,Off2.Off2A,Fct.box,Fct.made,Fct.nil,List.set];and_intros<;>first|trivial|omega):P:=h
theorem zq89{P:Prop}(h:P:=by rw [LM.1];kernel_rfl):P:=h
theorem zq113{P:Prop}(h:P:=by rw [LT.1];kernel_rfl):P:=h
theorem zq115{P:Prop}(h:P:=by have:=HQ.1;omega):P:=h
theorem zq127{P:Prop}(h:P:=by have o:=O.1;dsimp only [Off,OffA,Fct.box,Fct.made,Fct.nil,List.set];and_intros<;>first|trivial|omega):P:=h
theorem zq128{P:Prop}(h:P:=by rw [LD.1];kernel_rfl):P:=h
theorem zq135{P:Prop}(h:P:=by have o:=O.1;omega):P:=h
theorem zq215{P:Prop}(h:P:=by
 simp only [Bool.and_eq_true]
 exact ⟨h1,by simp⟩):P:=h
end Go.Proofs
namespace Go.Proofs.YtonhdiemjgdcnaaGreat.PFnExactGivePage
open Go.RowKit Go.Proofs.YtonhdiemjgdcnaaGreatW.PrintWords Go.Proofs.YtonhdiemjgdcnaaGreatW.PrintLast Go.Proofs.YtonhdiemjgdcnaaGreatW.PrintMore
attribute [local go_sem] zma zla zwa zxa zba zca zoa zna
def laws_toReaderS.l0:Nat→List (S132)→List (S135)→Int→Option ((List (S135)))
 |0,_,_,_=>none
 |k+1,x0,x3,x4=>if x4<(x0.length:Int) then (if 0≤x4 then ((laws_toReader.f k ((zY x0 x4).f0) ((zY x0 x4).f1.f0) ((zY x0 x4).f1.f1) ((zY x0 x4).f1.f2) ((zY x0 x4).f1.f3)).bind fun bt333=>(if x4<(x3.length:Int) then (laws_toReaderS.l0 k x0 (x3.set (x4:Int).toNat (⟨bt333.1,(⟨bt333.2.1,bt333.2.2.1,bt333.2.2.2.1,bt333.2.2.2.2⟩:S40)⟩:S135)) (wrap64 (x4+1))) else (none))) else (none)) else (some x3)
def laws_toReaderS.f (k:Nat) (l0:List (S132)):Option ((List (S135))):=if 0≤(l0.length:Int) then (if ((l0.length:Int):Int).toNat≤5026338869833 then (laws_toReaderS.l0 k l0 (List.replicate ((l0.length:Int):Int).toNat z135) 0) else (none)) else (none)
theorem toReaderS_o (k:Nat) (A0:Option Addr) (c0:Nat) (l0:List (S132)) (r:List (S135)) (w:World) (hr0:Kd.C k132 w A0 l0.length l0) (hc0:l0.length≤c0) (h:laws_toReaderS.f k l0=some r):
  Calls Tryz.prog 67 #[.slice A0 l0.length c0] w fun e w'=>∃v0:Value,e= .returned (v0)∧Kd.S k135 135 w' w.heap.size (fun k=>w.heap.size≤k) v0 r∧Below w.heap.size w w':=by
 have HR:=zz hr0
 clear hr0
 unfold laws_toReaderS.f at h
 by_cases c2:0≤(l0.length:Int)
 ·rw [if_pos c2] at h
  by_cases c3:((l0.length:Int):Int).toNat≤5026338869833
  ·rw [if_pos c3] at h
   have H':=zz h
   have C3:=zz c3
   have c2b:=z6 c2
   clear h c3
   go_enter Tryz.func67,Tryz.ntmps67
   go_wp2_with ((with_reducible refine zd (N:=7) rfl ?_);refine Kd.S_make k135 _ 135 rfl (N:=7) rfl 65 _ _ rfl (l0.length:Int) rfl rfl Tryz.underlying65 (.agg #[(.int .i64 0),(.int .i64 0),(.int .i64 0),(.int .i64 0),(.slice none 0 0)]) 56 info135 rfl zq31 zq9 z135 (ok:=fun k=>w.heap.size≤k) (okp:=fun _=>False) (k135_mkM _ _ _ z135 (Kd.S_nil _ _ _ _ _)) (fun k hk=>hk.elim) (z3a _) c2 (zq51 C3.1) (z1a _ _) (z3a _) ?_;intro v1 w1 hO hb _ _;have HO:=zz hO;have HB:=zz hb;clear hO hb)
   rename_i K1 hK1
   obtain ⟨A1,cc,e1⟩:=Kd.S_slice HO.1
   rw [List.length_replicate,Int.toNat_natCast] at e1
   subst e1
   go_loopg [4] k (fun kq v4 w'=>∃(xs:List S135) (x:Int),v4= .int .i64 x∧Z0 (laws_toReaderS.l0 kq l0 xs x=some r)∧Z0 (kq≤k)∧Z0 (Kd.S k135 135 w' w.heap.size (fun k=>w.heap.size≤k) (.slice A1 l0.length cc) xs)∧Z0 (Below w.heap.size w w'))
   case atStart=>exact ⟨_,0,rfl,H',⟨z3a _⟩,HO,HB⟩
   case round=>
    clear H' HO HB
    obtain ⟨xs,x,rfl,HA,HK1,HO,HB⟩:=hrel
    cases gk with
    |zero=>exact absurd HA.1 (by simp [laws_toReaderS.l0])
    |succ k1=>
     have H:=HA.1
     clear HA
     simp only [laws_toReaderS.l0] at H
     by_cases d1:x<(l0.length:Int)
     ·rw [if_pos d1] at H
      by_cases d2:0≤x
      ·rw [if_pos d2] at H
       obtain ⟨⟨t0,t1,t2,t3,t4⟩,A,H⟩:=z2a H
       have hlen:=(Kd.S_reads' HO.1).1
       by_cases d3:x<(xs.length:Int)
       ·replace H:=(if_pos d3).symm.trans H
        have MA:=zz A
        have H':=zz H
        have d1b:=z6 d1
        have d2b:=z6 d2
        obtain ⟨ad,A4,c4,rfl,y0,y1,y2,y3,y4,hl4,hC4⟩:=at_T132 HR.1 x d2 d1
        replace y0:=(HB.1.cell (z0a w _ y0)).trans y0
        replace y1:=(HB.1.cell (z0a w _ y1)).trans y1
        replace y2:=(HB.1.cell (z0a w _ y2)).trans y2
        replace y3:=(HB.1.cell (z0a w _ y3)).trans y3
        replace y4:=(HB.1.cell (z0a w _ y4)).trans y4
        have HC4:=zz (Kd.C_below hC4 HB.1)
        have HL4:=zz hl4
        obtain ⟨el,hel⟩:∃el,el=zY l0 x:=⟨_,rfl⟩
        rw [←hel] at y0 y1 y2 y3 y4 HC4 HL4 MA
        obtain ⟨g,cap,hv,gb,gl,cl,HG⟩:=Kd.S_form HO.1 zq9
        injection hv with hA hn hc
        subst hA;subst hc
        clear hn A H hC4 hl4 hel d3
        clear hlen
        go_wp2_with fail
        clear y0 y1 y2 y3 y4
        ((with_reducible refine (laws_toReader.calls k1 el.f0 el.f1.f0 el.f1.f1 el.f1.f2 A4 c4 el.f1.f3 t0 t1 t2 t3 t4 _ HC4.1 HL4.1 MA.1).mono ?_);rintro e w2 ⟨v4,rfl,hS,hb⟩)
        have okrow:=HO.1.choose_spec.1 g rfl
        have HS1:=Kd.S_mono (Kd.S_below (Kd.S_bound HO.1) hb) (ok':=fun k=>(w.heap.size≤k)∧¬(wr.heap.size≤k)) (fun k hk=>⟨hk.1,by have:=hk.2.2.1;omega⟩)
        have HF:=Kd.S_lower (Kd.S_mono (Kd.S_bound hS) (ok':=fun k=>wr.heap.size≤k) (fun k hk=>hk.2.1)) (Below.size HB.1)
        have HB2:=zz (ze HB.1 hb)
        obtain ⟨oki,c,hcl,hM,hcc,hfr,hoki,hH⟩:=Kd.S_elem HS1 z135 x d2 d1
        obtain ⟨vo,rfl,_⟩:=k135_openM hM
        obtain ⟨A5,c5,rfl⟩:=Kd.S_slice HF
        have hP:=Kd.S_seg hH d2 d1 (seg:=[.int .i64 t0,.int .i64 t1,.int .i64 t2,.int .i64 t3,.slice A5 t4.length c5]) (j:=0) (show 0+5≤5 from by decide) (x':=(⟨t0,(⟨t1,t2,t3,t4⟩:S40)⟩:S135)) (okp:=fun k=>wr.heap.size≤k) (k135_mkM _ _ _ (⟨t0,(⟨t1,t2,t3,t4⟩:S40)⟩:S135) HF) (fun k h=> .inr h) (fun k h=>⟨z5a (Below.size HB.1) h,zq9⟩)
        rw [show k135.sz=5 from rfl,Nat.add_zero] at hP
        have HT:=zz (show w2.there g (x.toNat*5) 5 from fun j hj=>⟨by rw [show x.toNat*5+j=x.toNat*k135.sz+j from rfl,hcc j _ (List.getElem?_eq_getElem hj)];rfl,hfr j⟩)
        have HP:=zz hP
        clear hP hH hM hcc hfr hcl hoki HS1 HF hS hb okrow HO HB HG
        go_wp2_with ((with_reducible refine zm (t:=135) (p:=21) rfl ?_);refine wpList_store_mid rfl 135 _ _ rfl g (x.toNat*5) #[.int .i64 t0,.int .i64 t1,.int .i64 t2,.int .i64 t3,.slice A5 t4.length c5] rfl rfl HT.1 zq13 (all_oneCell_toArray (by intro v hv;simp only [List.mem_cons,List.not_mem_nil,or_false] at hv;rcases hv with rfl|rfl|rfl|rfl|rfl<;>rfl)) ?_)
        obtain ⟨W3,hW3⟩:∃W,W=w2.setCells g (x.toNat*5) [.int .i64 t0,.int .i64 t1,.int .i64 t2,.int .i64 t3,.slice A5 t4.length c5]:=⟨_,rfl⟩
        rw [←hW3] at HP
        have HO:=zz HP.1.1
        have HB:=zz (Below.grown HB2.1 HP.1.2 (Below.size HB2.1) (fun k e=>by injection e with e;subst e;exact gb))
        try rw [←hW3]
        clear HP HB2 HT
        go_roundg k1
        case measure=>have:=HK1.1;omega
        case rel=>exact ⟨_,_,rfl,H',⟨zq51 HK1.1⟩,by (try rw [←hW3]);exact HO,by (try rw [←hW3]);exact HB⟩
       ·exact absurd ((if_neg d3).symm.trans H) zq38
      ·rw [if_neg d2] at H
       exact absurd H zq38
     ·rw [if_neg d1] at H
      have d1b:=z7 d1
      obtain rfl:=z6a H
      go_wp2
      go_ret
      exact ⟨_,rfl,HO.1,HB.1⟩
  ·rw [if_neg c3] at h
   cases h
 ·rw [if_neg c2] at h
  cases h
theorem markTxn_o (k:Nat) (x:S40) (l0:List ByteArray) (l1:List S110) (l2:Int) (l3 l4 l5:List Int) (n a b t1 t2 t3 r:Int) (fr:List S112) (q0:List ByteArray) (q1:List S110) (q3 q4 q5:List Int) (ok:Nat→Prop) {cs:List Value} (w0 w:World) (hB:Below w0.heap.size w0 w) (hk:∀k,ok k→k<w.heap.size) (h:kTxn.M w w0.heap.size ok (x,(l0,l1,l2,l3,l4,l5),n) cs) (hf:markF.l0 k x.f3 a 0=some (b,fr)) (g1:laws_markDisk.f k l0 l1 b=some (t1,q0,q1)) (g2:laws_markIntS.f k l3 t1=some (t2,q3)) (g3:laws_markIntS.f k l4 t2=some (t3,q4)) (g4:laws_markIntS.f k l5 t3=some (r,q5)):
  Calls Tryz.prog 13 #[.agg cs.toArray,.int .i64 a] w fun e w'=>e= .returned (.int .i64 r)∧kTxn.M w' w0.heap.size ok ((⟨x.f0,x.f1,x.f2,fr⟩:S40),(q0,q1,l2,q3,q4,q5),n) cs∧Below w0.heap.size w0 w'∧Kept w w' ok:=by
 obtain ⟨cM,c',okM,okB,rfl,hM,h,a0,b0,x0⟩:=Own.apair_open h
 obtain ⟨cW,cI,okW,okI,rfl,hW,hI,a1,b1,x1⟩:=Own.apair_open h
 obtain ⟨cs,hcs⟩:∃cs,cs=cM++(cW++cI):=⟨_,rfl⟩
 rw [←hcs]
 have E0:=zz (show cs=[]++(cM++(cW++cI)) from hcs)
 have E1:=zz hcs
 have LM:=zz (show cM.length=4 from k40.K_len (k40.K_of_M hM))
 have LW:=zz (show cW.length=6 from kWork.K_len (kWork.K_of_M hW))
 have hn:¬ok w.heap.size:=fun h=>Nat.lt_irrefl _ (hk _ h)
 have HN:=zz hn
 have RM:=zz (Kd.M_below hM (zo (z1a _ _) (.cells cs.toArray 46)))
 have RW:=zz (Kd.M_below hW (zo (z1a _ _) (.cells cs.toArray 46)))
 have HB:=zz (Own.below_more hB (.cells cs.toArray 46))
 have BX:=zz (zqa w (.cells cs.toArray 46))
 have HK:=zz (Kept.alloc (Kept.refl w ok) (.cells cs.toArray 46))
 have OM:=zz a0
 have OW:=zz (fun k h=>b0 k (a1 k h))
 have XX:=zz (fun k h1 h2=>x0 k h1 (a1 k h2))
 have KF:=zz hf
 have K1:=zz g1
 have K2:=zz g2
 have K3:=zz g3
 have K4:=zz g4
 have UM:=zz (fun (W:World) (hM:k40.M W w0.heap.size okM (⟨x.f0,x.f1,x.f2,fr⟩:S40) cM) (hW:kWork.M W w0.heap.size okW (q0,q1,l2,q3,q4,q5) cW)=>(Own.apair_mk hM (Own.apair_mk (ok:=okB) hW (show (Kd.int .i64).M W w0.heap.size (fun _=>False) n cI from hI) a1 (fun _ h=>h.elim) (fun _ _ h=>h)) a0 b0 x0:kTxn.M W w0.heap.size ok ((⟨x.f0,x.f1,x.f2,fr⟩:S40),(q0,q1,l2,q3,q4,q5),n) (cM++(cW++cI))))
 rw [←hcs] at UM
 have HL:=zz (show ∀k,ok k→k<(w.alloc (.cells cs.toArray 46)).heap.size from fun k h=>by have:=hk k h;simp;omega)
 clear h hM hW hI hB hk hf g1 g2 g3 g4 hn a0 b0 x0 a1 b1 x1 hcs
 go_enter Tryz.func13,Tryz.ntmps13
 go_wp2_with (((with_reducible refine zd (N:=6) rfl ?_);refine wpList_load_mid rfl 40 _ rfl w.heap.size 0 rfl cM _ (zlc (pre:=[]) BX.1 E0.1 zq22) Tryz.underlying40 rfl zq89 ?_))
 ((with_reducible refine (markMeta_o k x a b fr okM w0 _ HB.1 (fun k h=>HL.1 k (OM.1 k h)) RM.1 KF.1).mono ?_);rintro e w1 ⟨rfl,hM,hB1,hK1⟩)
 have n1:=zz hB1
 have n2:=zz hM
 have n3:=zz (Kd.M_kept RW.1 hK1 (fun k h h2=>XX.1 k h2 h))
 have n4:=zz (zab BX.1 hK1 (fun h=>HN.1 (OM.1 _ h)))
 have n5:=zz (HK.1.then_ hK1 (fun k h=> .inl (OM.1 k h)))
 have n6:=zz (fun k h=>z4a (HL.1 k h) hK1.1)
 clear HB RM RW BX HK HL hM hB1 hK1
 have HB:=n1;have RM:=n2;have RW:=n3;have BX:=n4;have HK:=n5;have HL:=n6
 clear n1 n2 n3 n4 n5 n6
 go_wp2_with (((with_reducible refine zd (N:=10) rfl ?_);refine wpList_load_mid rfl 44 _ rfl w.heap.size 4 rfl cW _ (zlc (pre:=cM) BX.1 E1.1 (by rw [LM.1])) Tryz.underlying44 rfl (by rw [LW.1];kernel_rfl) ?_))
 ((with_reducible refine (markWork_o k l0 l1 l2 l3 l4 l5 q0 q1 q3 q4 q5 b t1 t2 t3 r okW w0 _ HB.1 (fun k h=>HL.1 k (OW.1 k h)) RW.1 K1.1 K2.1 K3.1 K4.1).mono ?_);rintro e w2 ⟨rfl,hW,hB1,hK1⟩)
 have n2:=zz (Kd.M_kept RM.1 hK1 (fun k h h2=>XX.1 k h h2))
 have n5:=zz (HK.1.then_ hK1 (fun k h=> .inl (OW.1 k h)))
 go_wp2
 go_ret
 exact ⟨rfl,UM.1 _ n2.out hW,hB1,n5.out⟩
theorem markDisk_o (k:Nat) (l0:List ByteArray) (l1:List S110) (a r:Int) (q0:List ByteArray) (q1:List S110) (ok:Nat→Prop) {cs:List Value} (w0 w:World) (hB:Below w0.heap.size w0 w) (h:kDisk.M w w0.heap.size ok (l0,l1) cs) (hf:laws_markDisk.f k l0 l1 a=some (r,q0,q1)):
  Calls Tryz.prog 14 #[.agg cs.toArray,.int .i64 a] w fun e w'=>e= .returned (.int .i64 r)∧kDisk.M w' w0.heap.size ok (q0,q1) cs∧Below w0.heap.size w0 w'∧Kept w w' ok:=by
 obtain ⟨v0,v1,P0,P1,rfl,R0,R1,o0,o1,x0⟩:=kDisk_openM h
 refine (laws_markDisk.calls k P0 v0 l0 P1 v1 l1 a r q0 q1 w0 w hB R0 R1 hf).mono ?_
 rintro e w' ⟨rfl,G0,G1,hB1,hK1⟩
 exact ⟨rfl,zub (Own.R_tight2 rfl G0 R0.1) (Own.R_tight2 rfl G1 R1.1) o0 o1 x0,hB1,hK1.mono (fun k h=>h.elim (o0 k) (o1 k))⟩
theorem markStore_o (k:Nat) (l0:List ByteArray) (l1:List S110) (x:S40) (rs:List S135) (y:S40) (j0:List ByteArray) (j1:List S110) (j2:Int) (j3 j4 j5:List Int) (n:Int) (bw bf:Bool) (a u1 u2 u3 u4 t1 t2 t3 r:Int) (q0:List ByteArray) (q1:List S110) (fr:List S112) (rr:List S135) (gr:List S112) (p0:List ByteArray) (p1:List S110) (p3 p4 p5:List Int) (ok:Nat→Prop) {cs:List Value} (w0 w:World) (hB:Below w0.heap.size w0 w) (hk:∀k,ok k→k<w.heap.size) (h:kStore.M w w0.heap.size ok ((l0,l1),x,rs,(y,(j0,j1,j2,j3,j4,j5),n),bw,bf) cs) (f1:laws_markDisk.f k l0 l1 a=some (u1,q0,q1)) (f2:markF.l0 k x.f3 u1 0=some (u2,fr)) (f3:markR.l0 k rs u2 0=some (u3,rr)) (f4:markF.l0 k y.f3 u3 0=some (u4,gr)) (g1:laws_markDisk.f k j0 j1 u4=some (t1,p0,p1)) (g2:laws_markIntS.f k j3 t1=some (t2,p3)) (g3:laws_markIntS.f k j4 t2=some (t3,p4)) (g4:laws_markIntS.f k j5 t3=some (r,p5)):
  Calls Tryz.prog 28 #[.agg cs.toArray,.int .i64 a] w fun e w'=>e= .returned (.int .i64 r)∧kStore.M w' w0.heap.size ok ((q0,q1),(⟨x.f0,x.f1,x.f2,fr⟩:S40),rr,((⟨y.f0,y.f1,y.f2,gr⟩:S40),(p0,p1,j2,p3,p4,p5),n),bw,bf) cs∧Below w0.heap.size w0 w'∧Kept w w' ok:=by
 obtain ⟨cD,c1,okD,okB1,rfl,hD,h,a0,b0,x0⟩:=Own.apair_open h
 obtain ⟨cM,c2,okM,okB2,rfl,hM,h,a1,b1,x1⟩:=Own.apair_open h
 obtain ⟨cR,c3,okR,okB3,rfl,hR,h,a2,b2,x2⟩:=Own.apair_open h
 obtain ⟨cT,cB,okT,okB4,rfl,hT,hBB,a3,b3,x3⟩:=Own.apair_open h
 obtain ⟨vR,rfl,hR⟩:=hR
 obtain ⟨AR,ccR,rfl⟩:=Kd.S_slice hR
 obtain ⟨cs,hcs⟩:∃cs,cs=cD++(cM++([.slice AR rs.length ccR]++(cT++cB))):=⟨_,rfl⟩
 rw [←hcs]
 have E0:=zz (show cs=[]++(cD++(cM++([.slice AR rs.length ccR]++(cT++cB)))) from hcs)
 have E1:=zz hcs
 have E2:=zz (show cs=(cD++cM)++([.slice AR rs.length ccR]++(cT++cB)) by rw [hcs,List.append_assoc])
 have E3:=zz (show cs=(cD++(cM++[.slice AR rs.length ccR]))++(cT++cB) by rw [hcs,List.append_assoc,List.append_assoc])
 have LD:=zz (show cD.length=2 from kDisk.K_len (kDisk.K_of_M hD))
 have LM:=zz (show cM.length=4 from k40.K_len (k40.K_of_M hM))
 have LT:=zz (show cT.length=11 from kTxn.K_len (kTxn.K_of_M hT))
 have hn:¬ok w.heap.size:=fun h=>Nat.lt_irrefl _ (hk _ h)
 have HN:=zz hn
 have RD:=zz (Kd.M_below hD (zo (z1a _ _) (.cells cs.toArray 67)))
 have RM:=zz (Kd.M_below hM (zo (z1a _ _) (.cells cs.toArray 67)))
 have RR:=zz (Kd.S_below hR (zo (z1a _ _) (.cells cs.toArray 67)))
 have RT:=zz (Kd.M_below hT (zo (z1a _ _) (.cells cs.toArray 67)))
 have HB:=zz (Own.below_more hB (.cells cs.toArray 67))
 have BX:=zz (zqa w (.cells cs.toArray 67))
 have HK:=zz (Kept.alloc (Kept.refl w ok) (.cells cs.toArray 67))
 have OD:=zz a0
 have OM:=zz (fun k h=>b0 k (a1 k h))
 have OR:=zz (fun k h=>b0 k (b1 k (a2 k h)))
 have OT:=zz (fun k h=>b0 k (b1 k (b2 k (a3 k h))))
 have XDM:=zz (fun k h1 h2=>x0 k h1 (a1 k h2))
 have XDR:=zz (fun k h1 h2=>x0 k h1 (b1 k (a2 k h2)))
 have XDT:=zz (fun k h1 h2=>x0 k h1 (b1 k (b2 k (a3 k h2))))
 have XMR:=zz (fun k h1 h2=>x1 k h1 (a2 k h2))
 have XMT:=zz (fun k h1 h2=>x1 k h1 (b2 k (a3 k h2)))
 have XRT:=zz (fun k h1 h2=>x2 k h1 (a3 k h2))
 have K1:=zz f1
 have K2:=zz f2
 have K3:=zz f3
 have K4:=zz f4
 have K5:=zz g1
 have K6:=zz g2
 have K7:=zz g3
 have K8:=zz g4
 have UM:=zz (fun (W:World) (hD:kDisk.M W w0.heap.size okD (q0,q1) cD) (hM:k40.M W w0.heap.size okM (⟨x.f0,x.f1,x.f2,fr⟩:S40) cM) (hR:Kd.S k135 135 W w0.heap.size okR (.slice AR rs.length ccR) rr) (hT:kTxn.M W w0.heap.size okT ((⟨y.f0,y.f1,y.f2,gr⟩:S40),(p0,p1,j2,p3,p4,p5),n) cT)=>(Own.apair_mk hD (Own.apair_mk (ok:=okB1) hM (Own.apair_mk (ok:=okB2) (show (Own.srow 135 k135).M W w0.heap.size okR rr [.slice AR rs.length ccR] from ⟨_,rfl,hR⟩) (Own.apair_mk (ok:=okB3) hT (show (Own.apair Kd.bool Kd.bool).M W w0.heap.size okB4 (bw,bf) cB from hBB) a3 b3 x3) a2 b2 x2) a1 b1 x1) a0 b0 x0:kStore.M W w0.heap.size ok ((q0,q1),(⟨x.f0,x.f1,x.f2,fr⟩:S40),rr,((⟨y.f0,y.f1,y.f2,gr⟩:S40),(p0,p1,j2,p3,p4,p5),n),bw,bf) (cD++(cM++([.slice AR rs.length ccR]++(cT++cB))))))
 rw [←hcs] at UM
 have HL:=zz (show ∀k,ok k→k<(w.alloc (.cells cs.toArray 67)).heap.size from fun k h=>by have:=hk k h;simp;omega)
 clear h hD hM hR hT hBB hB hk f1 f2 f3 f4 g1 g2 g3 g4 hn a0 b0 x0 a1 b1 x1 a2 b2 x2 a3 b3 x3 hcs
 go_enter Tryz.func28,Tryz.ntmps28
 go_wp2_with (((with_reducible refine zd (N:=6) rfl ?_);refine wpList_load_mid rfl 37 _ rfl w.heap.size 0 rfl cD _ (zlc (pre:=[]) BX.1 E0.1 zq22) Tryz.underlying37 rfl zq128 ?_))
 ((with_reducible refine (markDisk_o k l0 l1 a u1 q0 q1 okD w0 _ HB.1 RD.1 K1.1).mono ?_);rintro e w1 ⟨rfl,hR_,hB1,hK1⟩)
 replace RM:=zz (Kd.M_kept RM.1 hK1 (fun k h h2=>XDM.1 k h2 h))
 replace RR:=zz (Kd.S_kept RR.1 hK1 (fun k h h2=>XDR.1 k h2 h))
 replace RT:=zz (Kd.M_kept RT.1 hK1 (fun k h h2=>XDT.1 k h2 h))
 replace RD:=zz hR_
 replace BX:=zz (zab BX.1 hK1 (fun h=>HN.1 (OD.1 _ h)))
 replace HK:=zz (HK.1.then_ hK1 (fun k h=> .inl (OD.1 k h)))
 replace HL:=zz (fun k h=>z4a (HL.1 k h) hK1.1)
 replace HB:=zz hB1
 clear hR_ hB1 hK1
 go_wp2_with (((with_reducible refine zd (N:=10) rfl ?_);refine wpList_load_mid rfl 40 _ rfl w.heap.size 2 rfl cM _ (zlc (pre:=cD) BX.1 E1.1 (by rw [LD.1])) Tryz.underlying40 rfl zq89 ?_))
 ((with_reducible refine (markMeta_o k x u1 u2 fr okM w0 _ HB.1 (fun k h=>HL.1 k (OM.1 k h)) RM.1 K2.1).mono ?_);rintro e w2 ⟨rfl,hR_,hB1,hK1⟩)
 replace RD:=zz (Kd.M_kept RD.1 hK1 (fun k h h2=>XDM.1 k h h2))
 replace RR:=zz (Kd.S_kept RR.1 hK1 (fun k h h2=>XMR.1 k h2 h))
 replace RT:=zz (Kd.M_kept RT.1 hK1 (fun k h h2=>XMT.1 k h2 h))
 replace RM:=zz hR_
 replace BX:=zz (zab BX.1 hK1 (fun h=>HN.1 (OM.1 _ h)))
 replace HK:=zz (HK.1.then_ hK1 (fun k h=> .inl (OM.1 k h)))
 replace HL:=zz (fun k h=>z4a (HL.1 k h) hK1.1)
 replace HB:=zz hB1
 clear hR_ hB1 hK1
 have hx:w2.cell? ⟨w.heap.size,6,none⟩=some (.slice AR rs.length ccR):=part_cell BX.1 E2.1 (by rw [List.length_append,LD.1,LM.1])
 go_wp2_with fail
 clear hx
 ((with_reducible refine (markReaderS_o k okR _ rs u2 u3 rr w0 _ HB.1 RR.1 K3.1).mono ?_);rintro e w3 ⟨rfl,hR_,hB1,hK1⟩)
 replace RD:=zz (Kd.M_kept RD.1 hK1 (fun k h h2=>XDR.1 k h h2))
 replace RM:=zz (Kd.M_kept RM.1 hK1 (fun k h h2=>XMR.1 k h h2))
 replace RT:=zz (Kd.M_kept RT.1 hK1 (fun k h h2=>XRT.1 k h2 h))
 replace RR:=zz hR_
 replace BX:=zz (zab BX.1 hK1 (fun h=>HN.1 (OR.1 _ h)))
 replace HK:=zz (HK.1.then_ hK1 (fun k h=> .inl (OR.1 k h)))
 replace HL:=zz (fun k h=>z4a (HL.1 k h) hK1.1)
 replace HB:=zz hB1
 clear hR_ hB1 hK1
 go_wp2_with (((with_reducible refine zd (N:=18) rfl ?_);refine wpList_load_mid rfl 46 _ rfl w.heap.size 7 rfl cT _ (zlc (pre:=(cD++(cM++[.slice AR rs.length ccR]))) BX.1 E3.1 (by simp only [List.length_append,List.length_cons,List.length_nil,LM.1,LD.1])) Tryz.underlying46 rfl zq113 ?_))
 ((with_reducible refine (markTxn_o k y j0 j1 j2 j3 j4 j5 n u3 u4 t1 t2 t3 r gr p0 p1 p3 p4 p5 okT w0 _ HB.1 (fun k h=>HL.1 k (OT.1 k h)) RT.1 K4.1 K5.1 K6.1 K7.1 K8.1).mono ?_);rintro e w4 ⟨rfl,hR_,hB1,hK1⟩)
 replace RD:=zz (Kd.M_kept RD.1 hK1 (fun k h h2=>XDT.1 k h h2))
 replace RM:=zz (Kd.M_kept RM.1 hK1 (fun k h h2=>XMT.1 k h h2))
 replace RR:=zz (Kd.S_kept RR.1 hK1 (fun k h h2=>XRT.1 k h h2))
 replace RT:=zz hR_
 replace BX:=zz (zab BX.1 hK1 (fun h=>HN.1 (OT.1 _ h)))
 replace HK:=zz (HK.1.then_ hK1 (fun k h=> .inl (OT.1 k h)))
 replace HL:=zz (fun k h=>z4a (HL.1 k h) hK1.1)
 replace HB:=zz hB1
 clear hR_ hB1 hK1
 go_wp2
 go_ret
 exact ⟨rfl,UM.1 _ RD.1 RM.1 RR.1 RT.1,HB.1,HK.1⟩
theorem zya {P:Program} {fn:Func} {p:Tmp} {ty:TypeId} (h:fn.results= #[.cell p ty]) (tmps:Array Value) (w:World) (g:Nat) (t:TypeId) (cs:Array Value) (fr:Nat×Nat) (d:TypeDesc)
  (hp:tmps.getD p undef= .pointer (some ⟨g,0,none⟩)) (hg:w.heap[g]?=some (.cells cs t fr))
  (hu:P.underlying ty=some d) (hd:(match d with| .struct _| .array _ _=>true|_=>false)=true) (hi:(P.info? ty).map (·.size)=some cs.size):
  (results fn tmps).run P w= .ok (.agg cs) w:=by
 have hp':tmps[p]?.getD undef= .pointer (some ⟨g,0,none⟩):=by simpa using hp
 simp [results,h,hp',asAddr,run_loadVar_row w g t ty cs fr d hg hu hd hi]
theorem zU {α:Type} {d:Kd α} {w:World} {x:α} {cs:List Value} (h:d.K w x cs):∀v∈cs,v.oneCell'=true:=d.K_one h
def kTxnL:Kd (S24×(List ByteArray×List S156×Int×List Int×List Int×List Int)×Int):=Own.apair k24 (Own.apair kWorkL (Kd.int .i64))
def kStoreL:Kd ((List ByteArray×List S156)×S24×List S132×(S24×(List ByteArray×List S156×Int×List Int×List Int×List Int)×Int)×Bool×Bool):=Own.apair kDiskL (Own.apair k24 (Own.apair (Own.srow 132 k132) (Own.apair kTxnL (Own.apair Kd.bool Kd.bool))))
def Fr (w w':World):Nat→Prop:=fun k=>w.heap.size≤k∧k<w'.heap.size
theorem toDisk_o (k:Nat) (l0:List ByteArray) (l1:List S156) (q0:List ByteArray) (q1:List S110) {cs:List Value} (w:World) (h:kDiskL.K w (l0,l1) cs) (hf:laws_toDisk.f k l0 l1=some (q0,q1)):
  Calls Tryz.prog 66 #[.agg cs.toArray] w fun e w'=>∃ds:List Value,e= .returned (.agg ds.toArray)∧kDisk.M w' w.heap.size (Fr w w') (q0,q1) ds∧Below w.heap.size w w':=by
 obtain ⟨A0,c0,A1,c1,rfl,m0,r0,m1,r1⟩:=kDiskL_open h
 refine (laws_toDisk.calls k A0 c0 l0 A1 c1 l1 q0 q1 w r0 m0 r1 m1 hf).mono ?_
 rintro e w' ⟨v0,v1,rfl,R0,R1,hb⟩
 have T0:=Own.R_tightB rfl R0
 have T1:=Own.R_tightB rfl R1
 exact ⟨[v0,v1],rfl,zub T0.1 T1.1 T0.2.1 T1.2.1 (Own.types_ne T0.2.2 T1.2.2 zq31),hb⟩
theorem toMeta_o (k:Nat) (x:S24) (y:S40) {cs:List Value} (w:World) (h:k24.K w x cs) (hf:laws_toMeta.f k x.f0 x.f1 x.f2 x.f3=some (y.f0,y.f1,y.f2,y.f3)):
  Calls Tryz.prog 40 #[.agg cs.toArray] w fun e w'=>∃ds:List Value,e= .returned (.agg ds.toArray)∧k40.M w' w.heap.size (Fr w w') y ds∧Below w.heap.size w w':=by
 obtain ⟨A3,c3,rfl,m3,r3⟩:=k24_open h
 refine (laws_toMeta.calls k x.f0 x.f1 x.f2 A3 c3 x.f3 y.f0 y.f1 y.f2 y.f3 w r3 m3 hf).mono ?_
 rintro e w' ⟨v3,rfl,R,hb⟩
 exact ⟨[.int .i64 y.f0,.int .i64 y.f1,.int .i64 y.f2,v3],rfl,zlb _ _ _ y (Kd.S_mono (Kd.S_bound R) (fun k hk=>⟨hk.2.1,hk.2.2.1⟩)),hb⟩
theorem toReaders_o (k:Nat) (l0:List (S132)) (r:List (S135)) {v:Value} (w:World) (h:(Own.srow 132 k132).K w l0 [v]) (hf:laws_toReaderS.f k l0=some r):
  Calls Tryz.prog 67 #[v] w fun e w'=>∃u:Value,e= .returned u∧Kd.S k135 135 w' w.heap.size (Fr w w') u r∧Below w.heap.size w w':=by
 obtain ⟨A0,c0,hv,m0,r0⟩:=h
 injection hv with hv
 subst hv
 refine (toReaderS_o k A0 c0 l0 r w r0 m0 hf).mono ?_
 rintro e w' ⟨u,rfl,R,hb⟩
 exact ⟨u,rfl,Kd.S_mono (Kd.S_bound R) (fun k hk=>⟨hk.2.1,hk.2.2.1⟩),hb⟩
theorem putS {α:Type} {d:Kd α} {e base g:Nat} {W W':World} {ok:Nat→Prop} {v:Value} {xs:List α} (h:Kd.S d e W base ok v xs) (p:Put1 W W' g) (hg:∀k,ok k→k≠g):Kd.S d e W' base ok v xs:=Kd.S_kept h p.kept hg
section
variable {P:Program} {ops:Array Oper} {rest:List Oper} {o:Oper} {a:Act} {Q:Exit→Act→World→Prop} {W:World}
theorem run_loadcell (ty:TypeId) (x:Operand) (ho:o.op= .load ty x) (g off:Nat) (pre:List Value) (v:Value) (post:List Value) {cs:List Value} {t:TypeId} {d:TypeDesc} (hx:a.eval x= .pointer (some ⟨g,off,none⟩)) (hg:W.heap[g]?=some (.cells cs.toArray t (0,0))) (e:cs=pre++([v]++post)) (hp:pre.length=off)
  (hu:P.underlying ty=some d) (hd:d.isRow=false):(execOp a.eval o).run P W= .ok (.value v) W:=by
 have hc:=part_cell hg e hp
 have hagg:(isAgg ty).run P W= .ok false W:=by
  unfold isAgg
  rw [Sem.run_bind,run_underlying hu W]
  cases d<;>simp_all
 unfold execOp
 simp [ho,hx,Instr.loadAt,Instr.sureAddr,Sem.run_bind,loadVar,hagg,run_load,hc]
theorem zy (hgd:o.guard=none) (ty:TypeId) (x:Operand) (ho:o.op= .load ty x) (g off:Nat) (pre:List Value) (v:Value) (post:List Value) {cs:List Value} {t:TypeId} {d:TypeDesc} (hx:a.eval x= .pointer (some ⟨g,off,none⟩)) (hg:W.heap[g]?=some (.cells cs.toArray t (0,0))) (e:cs=pre++([v]++post)) (hp:pre.length=off)
  (hu:P.underlying ty=some d) (hd:d.isRow=false) (h:wpList P ops Q rest (a.put o.dst v) W):wpList P ops Q (o::rest) a W:=by
 refine wpList_plain hgd fun K hK=> ?_
 unfold Oper.wp
 rw [run_loadcell ty x ho g off pre v post hx hg e hp hu hd]
 exact hK _ _ h
end
end Go.Proofs.YtonhdiemjgdcnaaGreat.PFnExactGivePage
namespace Go.Proofs.YtonhdiemjgdcnaaGreatW.PrintLast
open Go.Proofs.YtonhdiemjgdcnaaGreatW.PrintWords (Z0)
inductive Stp where
 |p (i:Nat)|t (i:Nat)|e (i:Nat)|l (i:Nat)
section
variable {P:Program} {ops:Array Oper} {Q:Exit→Act→World→Prop} {S:World→Prop} {ds:List Nat} {T:Bool×List (List Nat×List Nat)} {B:List Nat} {N:Option Tmp} {o:Oper} {v:Value} {a:Act} {w:World} {i:Nat} {r:List Stp}
def walkB (T:Bool×List (List Nat×List Nat)) (B ds:List Nat):Bool→List Bool→List Stp→Bool
 |_,l,[]=>zFb T.2 l==[]
 |k,l,.p i::r=>(T.1&&freeT T.2 l i&&zTb T.2 l i)&&walkB T B ds k (l.set i true) r
 |k,l,.t i::r=>(k&&takeW T B ds l (l.set i true) i)&&walkB T B ds k (l.set i true) r
 |_,l,.e i::r=>(zFb T.2 l==[i]&& !ds.contains i)&&walkB T B ds true (l.set i true) r
 |_,l,.l i::r=>(zFb T.2 l==[i]&&ds.contains i)&&walkB T B ds false (l.set i true) r
def regB (ops:Array Oper) (T:Bool×List (List Nat×List Nat)) (B ds:List Nat) (r:List Stp):Bool:=rtab .any ops==T&&zQa T.2 B&&r.length==ops.size&&walkB T B ds true (List.replicate ops.size false) r
theorem put_with (a:Act) (d:Option Tmp) (v:Value):a.put d v={a with tmps:=(a.put d v).tmps}:=by cases d<;>rfl
def ztb (P:Program) (ops:Array Oper) (Q:Exit→Act→World→Prop) (S:World→Prop):List Stp→Act→World→Prop
 |[],a,w=>Q .normal a w
 | .p i::r,a,w=>∃o v,ops[i]?=some o∧Yields P ops o v a∧ztb P ops Q S r (a.put o.dst v) w
 | .t i::r,a,w=>∃o v,ops[i]?=some o∧YieldsIf P ops S o v a∧ztb P ops Q S r (a.put o.dst v) w
 | .e i::r,a,w=>∃o,ops[i]?=some o∧∀K:Act→World→Prop,Shut (∀a' w',S w'→(S w'→ztb P ops Q S r a' w')→K a' w')→if Region.wanted o (yielded ops a.tmps)=true then Oper.wp P o a w K Q else K (a.put o.dst undef) w
 | .l i::r,a,w=>∃o,ops[i]?=some o∧∀K:Act→World→Prop,Shut (∀a' w',ztb P ops Q S r a' w'→K a' w')→if Region.wanted o (yielded ops a.tmps)=true then Oper.wp P o a w K Q else K (a.put o.dst undef) w
theorem zEb (hT:rtab .any ops=T) (hB:zQa T.2 B=true) (hQ:∀c (a:Act) ts w,Q (.panic c) {a with tmps:=ts} w→Q (.panic c) a w):∀(r:List Stp) (k:Bool) (l:List Bool) (a:Act) (w:World),
  walkB T B ds k l r=true→(k=true→S w)→ztb P ops Q S r a w→zI P .any ops Q S ds r.length l.toArray a w
 |[],k,l,a,w,hc,hS,h=>⟨by subst hT;rw [zOb];simpa [walkB] using hc,h⟩
 | .p i::r,k,l,a,w,hc,hS,h=>by
  simp only [walkB,Bool.and_eq_true] at hc
  obtain ⟨⟨⟨h1,h2⟩,h3⟩,h4⟩:=hc
  obtain ⟨o,v,ho,hy,hr⟩:=h
  refine zia (l.set i true).toArray ho rfl (zQ hT ?_) (fun c a w hh=>hQ c a (a.put o.dst v).tmps w (by rw [←put_with];exact hh)) hy rfl (zEb hT hB hQ r k _ _ w h4 hS hr)
  simp only [anyT,Bool.and_eq_true]
  exact ⟨⟨⟨h1,h2⟩,h3⟩,by simp⟩
 | .t i::r,k,l,a,w,hc,hS,h=>by
  simp only [walkB,Bool.and_eq_true] at hc
  obtain ⟨⟨h1,h2⟩,h4⟩:=hc
  obtain ⟨o,v,ho,hy,hr⟩:=h
  exact take_ (l.set i true).toArray ho rfl (zja hT hB h2) (fun c a w hh=>hQ c a (a.put o.dst v).tmps w (by rw [←put_with];exact hh)) hy (hS h1) rfl (zEb hT hB hQ r k _ _ w h4 hS hr)
 | .e i::r,k,l,a,w,hc,hS,h=>by
  simp only [walkB,Bool.and_eq_true] at hc
  obtain ⟨⟨h1,h2⟩,h4⟩:=hc
  obtain ⟨o,ho,hr⟩:=h
  refine one_ (l.set i true).toArray ho rfl (zVa hT ?_) (by simpa using h2) (fun K hK=>hr K (fun a' w' hs hw=>hK.out a' w' hs fun hs=>zEb hT hB hQ r true _ a' w' h4 (fun _=>hs) (hw hs)))
  exact zq215
 | .l i::r,k,l,a,w,hc,hS,h=>by
  simp only [walkB,Bool.and_eq_true] at hc
  obtain ⟨⟨h1,h2⟩,h4⟩:=hc
  obtain ⟨o,ho,hr⟩:=h
  refine last_ (l.set i true).toArray ho rfl (zVa hT ?_) (by simpa using h2) (fun K hK=>hr K (fun a' w' hw=>hK.out a' w' (zEb hT hB hQ r false _ a' w' h4 (fun h=>by cases h) hw)))
  exact zq215
theorem zMa {id:Nat} (hc:regB ops T B ds r=true) (hm:P.follows .mixedOrders=true) (hQ:∀c (a:Act) ts w,Q (.panic c) {a with tmps:=ts} w→Q (.panic c) a w) (hS:S w.drew) (h:S w.drew→ztb P ops Q S r a w.drew):(Code.region id ops true).wp P Q a w:=by
 simp only [regB,Bool.and_eq_true,beq_iff_eq] at hc
 obtain ⟨⟨⟨h1,h2⟩,h3⟩,h4⟩:=hc
 refine zVb (ds:=ds) (List.replicate ops.size false).toArray hm rfl zq38 hS (fun hs=> ?_)
 rw [←h3]
 exact zEb h1 h2 hQ r true _ a _ (by rw [h3];exact h4) (fun _=>hs) (h hs)
theorem zpa (ho:ops[i]?=some o) (hN:o.dst=N) (hy:Yields P ops o v a) {a':Act} (ha:a.put N v=a') (h:ztb P ops Q S r a' w):ztb P ops Q S (.p i::r) a w:=by
 subst hN;subst ha;exact ⟨o,v,ho,hy,h⟩
theorem zbb (ho:ops[i]?=some o) (hN:o.dst=N) (hy:YieldsIf P ops S o v a) {a':Act} (ha:a.put N v=a') (h:ztb P ops Q S r a' w):ztb P ops Q S (.t i::r) a w:=by
 subst hN;subst ha;exact ⟨o,v,ho,hy,h⟩
theorem seq_e (ho:ops[i]?=some o) (hN:o.dst=N) (h:∀K:Act→World→Prop,Shut (∀a' w',S w'→(S w'→ztb P ops Q S r a' w')→K a' w')→if Region.wanted o (yielded ops a.tmps)=true then Oper.wp P o a w K Q else K (a.put N undef) w):ztb P ops Q S (.e i::r) a w:=by
 subst hN;exact ⟨o,ho,h⟩
theorem seq_l (ho:ops[i]?=some o) (hN:o.dst=N) (h:∀K:Act→World→Prop,Shut (∀a' w',ztb P ops Q S r a' w'→K a' w')→if Region.wanted o (yielded ops a.tmps)=true then Oper.wp P o a w K Q else K (a.put N undef) w):ztb P ops Q S (.l i::r) a w:=by
 subst hN;exact ⟨o,ho,h⟩
theorem zZa (h:Q .normal a w):ztb P ops Q S [] a w:=h
theorem zha {a':Act} (ha:a=a') (h:ztb P ops Q S r a' w):ztb P ops Q S r a w:=by subst ha;exact h
theorem zva {f:FuncId} {fn:Func} {aa:Array Operand} {ts:Array TypeId} (ho:ops[i]?=some o) (hN:o.dst=N) (hf:P.funcs[f]?=some fn) (hname:(fn.name== "runtime.NumGoroutine")=false) (hb:fn.body.isSome=true) (args:Array Value)
  (hw:Region.wanted o (yielded ops a.tmps)=true) (hop:o.op= .call {callee:= .value (.func f),args:=aa,argTypes:=ts}) (hargs:aa.map a.eval=args)
  (h:Calls P f args w fun e w'=>∃v,e= .returned v∧S w'∧(S w'→ztb P ops Q S r (a.put N v) w')):ztb P ops Q S (.e i::r) a w:=
 seq_e ho hN fun K hK=>goes_ hf hname hb args hw hN hop hargs (h.mono fun e w' ⟨v,he,hs,hk⟩=>⟨v,he,hK.out _ _ hs hk⟩)
end
end Go.Proofs.YtonhdiemjgdcnaaGreatW.PrintLast
namespace Go.Proofs.YtonhdiemjgdcnaaGreat.PFnExactGivePage
open Go.RowKit Go.Proofs.YtonhdiemjgdcnaaGreatW.PrintWords Go.Proofs.YtonhdiemjgdcnaaGreatW.PrintLast Go.Proofs.YtonhdiemjgdcnaaGreatW.PrintMore
attribute [local go_sem] zma zla zwa zxa zba zca zoa zna
section
variable {P:Program} {ops:Array Oper} {Q:Exit→Act→World→Prop} {S:World→Prop} {N:Option Tmp} {o:Oper} {a:Act} {w:World} {i:Nat} {r:List Stp}
theorem zHb (ho:ops[i]?=some o) (hN:o.dst=N) (hw:Region.wanted o (yielded ops a.tmps)=true) (ty:TypeId) (x:Operand) (hop:o.op= .load ty x) (g off:Nat) (pre mid post:List Value) {cs:List Value} {t:TypeId} (d:TypeDesc) (hx:a.eval x= .pointer (some ⟨g,off,none⟩)) (hg:∀w',S w'→w'.heap[g]?=some (.cells cs.toArray t (0,0))) (e:cs=pre++(mid++post)) (hp:pre.length=off)
  (hu:P.underlying ty=some d) (hd:d.isRow=true) (hi:(P.info? ty).map (·.size)=some mid.length) {a':Act} (ha:a.put N (.agg mid.toArray)=a') (h:ztb P ops Q S r a' w):ztb P ops Q S (.t i::r) a w:=
 zbb ho hN (.inl ⟨hw,fun w' hs=>run_loadpart ty x hop g off pre mid post d hx (hg w' hs) e hp hu hd hi⟩) ha h
theorem zIb (ho:ops[i]?=some o) (hN:o.dst=N) (hw:Region.wanted o (yielded ops a.tmps)=true) (ty:TypeId) (x:Operand) (hop:o.op= .load ty x) (g off:Nat) (pre:List Value) (v:Value) (post:List Value) {cs:List Value} {t:TypeId} (d:TypeDesc) (hx:a.eval x= .pointer (some ⟨g,off,none⟩)) (hg:∀w',S w'→w'.heap[g]?=some (.cells cs.toArray t (0,0))) (e:cs=pre++([v]++post)) (hp:pre.length=off)
  (hu:P.underlying ty=some d) (hd:d.isRow=false) {a':Act} (ha:a.put N v=a') (h:ztb P ops Q S r a' w):ztb P ops Q S (.t i::r) a w:=
 zbb ho hN (.inl ⟨hw,fun w' hs=>run_loadcell ty x hop g off pre v post hx (hg w' hs) e hp hu hd⟩) ha h
theorem zec (ho:ops[i]?=some o) (hN:o.dst=none) (hw:Region.wanted o (yielded ops a.tmps)=true) (ty:TypeId) (x y:Operand) (hop:o.op= .store ty x y) (g off:Nat) (new pre mid post:List Value) {cs:List Value} {t:TypeId} (hx:a.eval x= .pointer (some ⟨g,off,none⟩)) (hy:a.eval y= .agg new.toArray) (hg:w.heap[g]?=some (.cells cs.toArray t (0,0))) (e:cs=pre++(mid++post)) (hp:pre.length=off)
  (hl:new.length=mid.length) (hi:(P.info? ty).map (·.size)=some new.length) (h1:∀v∈new,v.oneCell'=true)
  (h:∀W',Put1 w W' g→W'.heap[g]?=some (.cells (pre++(new++post)).toArray t (0,0))→ztb P ops Q S r a W'):ztb P ops Q S (.l i::r) a w:=by
 refine seq_l ho hN (fun K hK=> ?_)
 rw [if_pos hw]
 refine wp_store_mid ty x y hop g off new.toArray hx hy zq130 (by rw [List.size_toArray];exact hi) (Array.all_eq_true_iff_forall_mem.2 (fun v hv=>h1 v (by simpa using hv))) ?_
 rw [show a.put o.dst undef=a by rw [hN];rfl]
 refine hK.out _ _ (h _ (Put1.cells off _) ?_)
 subst e;subst hp
 exact zjc new mid pre post w hl hg
theorem zdc (ho:ops[i]?=some o) (hN:o.dst=none) (hw:Region.wanted o (yielded ops a.tmps)=true) (ty:TypeId) (x y:Operand) (hop:o.op= .store ty x y) (g off:Nat) (v u:Value) (pre post:List Value) {cs:List Value} {t:TypeId} (hx:a.eval x= .pointer (some ⟨g,off,none⟩)) (hy:a.eval y=v) (hg:w.heap[g]?=some (.cells cs.toArray t (0,0))) (e:cs=pre++([u]++post)) (hp:pre.length=off)
  (hi:(P.info? ty).map (·.size)=some 1) (h1:v.oneCell'=true) (hc:v.cells= #[v])
  (h:∀W',Put1 w W' g→W'.heap[g]?=some (.cells (pre++([v]++post)).toArray t (0,0))→ztb P ops Q S r a W'):ztb P ops Q S (.l i::r) a w:=by
 refine seq_l ho hN (fun K hK=> ?_)
 rw [if_pos hw]
 have hth:=part_there hg e hp
 have hrun:=run_storeCells_cells (P:=P) g off [v] 0 w (fun j hj=>(hth j hj).1) (fun j hj=>(hth j hj).2) (fun q hq=>by rw [List.mem_singleton.1 hq];exact h1)
 have hs:(storeVar ty ⟨g,off,none⟩ v).run P w= .ok () (w.setCells g off [v]):=zq165
 unfold Oper.wp execOp
 simp only [hop,hx,hy,Instr.storeAt,Instr.sureAddr,Sem.run_bind,Sem.run_pure,Result.andThen_ok,hs]
 show K (a.put o.dst undef) _
 rw [show a.put o.dst undef=a by rw [hN];rfl]
 refine hK.out _ _ (h _ (Put1.cells off _) ?_)
 subst e;subst hp
 exact zjc [v] [u] pre post w rfl hg
end
structure Fct where
 lo:Nat
 hi:Nat
 P:World→Prop
 mv:∀{W W':World},(∀k,lo≤k→k<hi→W'.heap[k]?=W.heap[k]?)→P W→P W'
def Iv (lo hi:Nat):Nat→Prop:=fun k=>lo≤k∧k<hi
def Fct.box (g:Nat) (cs:List Value) (t:TypeId):Fct:=⟨g,g+1,fun W=>W.heap[g]?=some (.cells cs.toArray t (0,0)),fun h hp=>(h g (z3a _) (Nat.lt_succ_self _)).trans hp⟩
def Fct.made {α:Type} (d:Kd α) (base lo hi:Nat) (ok:Nat→Prop) (x:α) (cs:List Value):Fct:=
 ⟨lo,hi,fun W=>d.M W base (fun k=>ok k∧Iv lo hi k) x cs,fun h hp=>d.M_move (fun k hk=>h k hk.2.1 hk.2.2) hp⟩
def All (W:World) (top:Nat):List Fct→Prop
 |[]=>True
 |f::fs=>(f.hi≤top∧f.P W)∧All W top fs
structure Env (w0 W:World) (top:Nat) (fs:List Fct):Prop where
 below:Below w0.heap.size w0 W
 le:top≤W.heap.size
 ge:w0.heap.size≤top
 all:All W top fs
def OffA (g:Nat):List Fct→Prop
 |[]=>True
 |f::fs=>(g<f.lo∨f.hi≤g)∧OffA g fs
def Off (g:Nat):List Fct→Nat→Prop
 |[],_=>True
 |_::fs,0=>OffA g fs
 |f::fs,n+1=>(g<f.lo∨f.hi≤g)∧Off g fs n
section
variable {w0 W W':World} {top top':Nat} {fs:List Fct}
theorem All.step (hk:∀k,k<top→W'.heap[k]?=W.heap[k]?) (ht:top≤top'):∀{fs:List Fct},All W top fs→All W' top' fs
 |[],_=>trivial
 |f::_,⟨⟨h1,h2⟩,h3⟩=>⟨⟨z5a h1 ht,f.mv (fun k _ h=>hk k (z4a h h1)) h2⟩,All.step hk ht h3⟩
theorem All.offA {g:Nat} (hk:∀k,k≠g→W'.heap[k]?=W.heap[k]?):∀{fs:List Fct},All W top fs→OffA g fs→All W' top fs
 |[],_,_=>trivial
 |f::_,⟨⟨h1,h2⟩,h3⟩,⟨h4,h5⟩=>⟨⟨h1,f.mv (fun k h6 h7=>hk k (by rintro rfl;omega)) h2⟩,All.offA hk h3 h5⟩
theorem All.off {g:Nat} (hk:∀k,k≠g→W'.heap[k]?=W.heap[k]?) {f':Fct} (hf:f'.P W') (hh:∀f:Fct,f.hi≤top→f.lo≤g→g<f.hi→True):∀{fs:List Fct} (i:Nat),f'.hi≤top→All W top fs→Off g fs i→All W' top (fs.set i f')
 |[],i,_,_,_=>by cases i<;>exact trivial
 |_::_,0,ht,⟨_,h3⟩,h5=>⟨⟨ht,hf⟩,All.offA hk h3 h5⟩
 |f::_,i+1,ht,⟨⟨h1,h2⟩,h3⟩,⟨h4,h5⟩=>⟨⟨h1,f.mv (fun k h6 h7=>hk k (by rintro rfl;omega)) h2⟩,All.off hk hf hh i ht h3 h5⟩
theorem All.get:∀{fs:List Fct} (i:Nat) {f:Fct},All W top fs→fs[i]?=some f→f.hi≤top∧f.P W
 |[],i,_,_,h=>by simp at h
 |f::_,0,_,⟨h1,_⟩,h=>by simp at h;subst h;exact h1
 |_::_,i+1,_,⟨_,h3⟩,h=>All.get i h3 (by simpa using h)
theorem Env.start (w:World):Env w w w.heap.size []:=⟨z1a _ _,z3a _,z3a _,trivial⟩
theorem Env.get (E:Env w0 W top fs) (i:Nat) {f:Fct} (h:fs[i]?=some f):f.P W:=(All.get i E.all h).2
theorem Env.box (E:Env w0 W top fs) (i:Nat) {g:Nat} {cs:List Value} {t:TypeId} (h:fs[i]?=some (Fct.box g cs t)):W.heap[g]?=some (.cells cs.toArray t (0,0)):=E.get i h
theorem Env.made (E:Env w0 W top fs) (i:Nat) {α:Type} {d:Kd α} {base lo hi:Nat} {ok:Nat→Prop} {x:α} {cs:List Value} (h:fs[i]?=some (Fct.made d base lo hi ok x cs)):d.M W base (fun k=>ok k∧Iv lo hi k) x cs:=E.get i h
theorem Env.mk_ (E:Env w0 W top fs) (i:Nat) {α:Type} {d:Kd α} {base lo hi:Nat} {ok:Nat→Prop} {x:α} {cs:List Value} (h:fs[i]?=some (Fct.made d base lo hi ok x cs)):d.K W x cs:=d.K_of_M (E.made i h)
theorem Env.K (E:Env w0 W top fs) {α:Type} {d:Kd α} {x:α} {cs:List Value} (h:d.K w0 x cs):d.K W x cs:=d.K_below E.below h
theorem Env.alloc (E:Env w0 W top fs) (cs:List Value) (t:TypeId) {g:Nat} (hg:W.heap.size=g):Env w0 (W.alloc (.cells cs.toArray t)) (g+1) (Fct.box g cs t::fs):=by
 subst hg
 refine ⟨zo E.below _,by simp,Nat.le_succ_of_le E.below.size,⟨z3a _,zqa W _⟩,All.step (fun k h=>(zo (z1a W.heap.size W) (.cells cs.toArray t)).block k (z4a h E.le)) (Nat.le_succ_of_le E.le) E.all⟩
theorem Env.call (E:Env w0 W top fs) (hb:Below W.heap.size W W'):Env w0 W' top fs:=
 ⟨ze E.below hb,z5a E.le hb.size,E.ge,All.step (fun k h=>hb.block k (z4a h E.le)) (z3a _) E.all⟩
theorem Env.drew (E:Env w0 W top fs):Env w0 W.drew top fs:=E.call (z1a W.heap.size W).drew
theorem Env.made_ (E:Env w0 W top fs) {α:Type} {d:Kd α} {x:α} {cs:List Value} (M:d.M W' W.heap.size (Fr W W') x cs) (hb:Below W.heap.size W W'):∃n m,(top≤n∧n≤m)∧Env w0 W' m (Fct.made d w0.heap.size n m (fun _=>True) x cs::fs):=
 ⟨W.heap.size,W'.heap.size,⟨E.le,hb.size⟩,ze E.below hb,z3a _,z5a E.below.size hb.size,⟨z3a _,d.M_lower E.below.size (d.M_mono (fun k hk=>⟨trivial,hk⟩) M)⟩,All.step (fun k h=>hb.block k (z4a h E.le)) (z5a E.le hb.size) E.all⟩
theorem Env.put (E:Env w0 W top fs) (i:Nat) {g:Nat} {new:List Value} {t:TypeId} (hp:Put1 W W' g) (hn:W'.heap[g]?=some (.cells new.toArray t (0,0))) (hg:w0.heap.size≤g) (ht:g+1≤top) (ho:Off g fs i):Env w0 W' top (fs.set i (Fct.box g new t)):=by
 have hk:∀k,k≠g→W'.heap[k]?=W.heap[k]?:=by
  intro k hk
  by_cases hlt:k<W.heap.size
  ·exact hp.kept.2 k hlt hk
  ·rw [Array.getElem?_eq_none (show W'.heap.size≤k by rw [hp.size];omega),Array.getElem?_eq_none (show W.heap.size≤k by omega)]
 exact ⟨hp.below w0 hg E.below,by rw [hp.size];exact E.le,E.ge,All.off hk hn (fun _ _ _ _=>trivial) i ht E.all ho⟩
theorem Env.add (E:Env w0 W top fs) (f:Fct) (h1:f.hi≤top) (h2:f.P W):Env w0 W top (f::fs):=⟨E.below,E.le,E.ge,⟨h1,h2⟩,E.all⟩
end
section
variable {w0 W W':World} {top:Nat} {fs:List Fct} {p:Prop}
theorem ones_K {α:Type} {d:Kd α} {w:World} {x:α} {cs:List Value} (h:d.K w x cs):∀v∈cs,v.oneCell'=true:=d.K_one h
theorem Env.made4 (E:Env w0 W top fs) (O:p) {α:Type} {d:Kd α} {x:α} {cs:List Value} (z:Nat) (hz:d.sz=z) (M:d.M W' W.heap.size (Fr W W') x cs) (hb:Below W.heap.size W W'):∃n m,Z0 (cs.length=z)∧Z0 (∀v∈cs,v.oneCell'=true)∧Z0 ((top≤n∧n≤m)∧p)∧Z0 (Env w0 W' m (Fct.made d w0.heap.size n m (fun _=>True) x cs::fs)):=by
 obtain ⟨n,m,h1,h2⟩:=E.made_ M hb
 exact ⟨n,m,⟨(d.K_len (d.K_of_M M)).trans hz⟩,⟨ones_K (d.K_of_M M)⟩,⟨h1,O⟩,⟨h2⟩⟩
theorem Env.put2 (E:Env w0 W top fs) (i:Nat) {g:Nat} {new:List Value} {t:TypeId} (hp:Put1 W W' g) (hn:W'.heap[g]?=some (.cells new.toArray t (0,0))) (ho:w0.heap.size≤g∧g+1≤top∧Off g fs i):Z0 (Env w0 W' top (fs.set i (Fct.box g new t))):=⟨E.put i hp hn ho.1 ho.2.1 ho.2.2⟩
theorem Env.to (E:Env w0 W top fs) (h:W=W'):Z0 (Env w0 W' top fs):=⟨h▸E⟩
end
theorem zH {a b:List Value} (ha:∀v∈a,v.oneCell'=true) (hb:∀v∈b,v.oneCell'=true):∀v∈a++b,v.oneCell'=true:=fun v hv=>(List.mem_append.1 hv).elim (ha v) (hb v)
theorem zPa {a:Value} (h:a.oneCell'=true):∀v∈[a],v.oneCell'=true:=fun v hv=>by rw [List.mem_singleton.1 hv];exact h
theorem zta {a:Value} {l:List Value} (h:a.oneCell'=true) (hl:∀v∈l,v.oneCell'=true):∀v∈a::l,v.oneCell'=true:=fun v hv=>(List.mem_cons.1 hv).elim (fun e=>by rw [e];exact h) (hl v)
theorem onesN:∀v∈([]:List Value),v.oneCell'=true:=fun v hv=>by cases hv
theorem lump_ (l:List Value) (n:Nat) (h:l.length=n) (ho:∀v∈l,v.oneCell'=true):∃c,Z0 (c=l)∧Z0 (c.length=n)∧Z0 (∀v∈c,v.oneCell'=true):=⟨l,⟨rfl⟩,⟨h⟩,⟨ho⟩⟩
theorem s_A {α:Type _} (l:List α) (i:Nat) (a:α):l.toArray.setIfInBounds i a=(l.set i a).toArray:=List.setIfInBounds_toArray l i a
theorem s_0 {α:Type _} (x y:α) (xs:List α):(x::xs).set 0 y=y::xs:=rfl
theorem s_1 {α:Type _} (x y:α) (i:Nat) (xs:List α):(x::xs).set (i+1) y=x::xs.set i y:=rfl
theorem comb {α β:Type} {a:Kd α} {b:Kd β} {W:World} {base:Nat} {p q:Nat→Prop} {x:α} {y:β} {c0 c1:List Value} (ha:a.M W base p x c0) (hb:b.M W base q y c1) (hd:∀k,p k→¬q k):(Own.apair a b).M W base (fun k=>p k∨q k) (x,y) (c0++c1):=
 Own.apair_mk ha hb (fun _ h=> .inl h) (fun _ h=> .inr h) hd
theorem Mint {W:World} {base:Nat} {n:Int}:(Kd.int .i64).M W base (fun _=>False) n [.int .i64 n]:=rfl
theorem Mbool {W:World} {base:Nat} {b:Bool}:Kd.bool.M W base (fun _=>False) b [.bool b]:=rfl
theorem zGb {α:Type} {d:Kd α} {w W:World} {base:Nat} {p:Nat→Prop} {x:α} {cs:List Value} (h:d.M W base p x cs) (hb:w.heap.size≤base):d.M W w.heap.size (Fr w W) x cs:=
 d.M_mono (fun k hk=>⟨hk.2.1,hk.2.2.1⟩) (d.M_bound (d.M_lower hb h))
theorem aA {α:Type} (x y z:List α):x++y++z=x++(y++z):=List.append_assoc x y z
theorem aN {α:Type} (x:List α):[]++x=x:=rfl
theorem aL {α:Type} (x:List α):x++[]=x:=List.append_nil x
end Go.Proofs.YtonhdiemjgdcnaaGreat.PFnExactGivePage
namespace Go.Proofs.YtonhdiemjgdcnaaGreatW.PrintLast
open Go.Proofs.YtonhdiemjgdcnaaGreatW.PrintWords (Z0)
inductive Tre where
 |d
 |p (i:Nat) (r:Tre)|t (i:Nat) (r:Tre)|e (i:Nat) (r:Tre)|l (i:Nat) (r:Tre)
 |two (i j:Nat) (ri rj:Tre)
 |three (i j k:Nat) (ri rj rk:Tre)
 |four (i j k m:Nat) (ri rj rk rm:Tre)
section
variable {P:Program} {ops:Array Oper} {Q:Exit→Act→World→Prop} {S:World→Prop} {ds:List Nat} {T:Bool×List (List Nat×List Nat)} {B:List Nat} {N:Option Tmp} {o:Oper} {v:Value} {a:Act} {w:World} {i j:Nat} {r ri rj:Tre}
def zfb (T:Bool×List (List Nat×List Nat)) (B ds:List Nat):Nat→Bool→List Bool→Tre→Bool
 |_,_,l,.d=>zFb T.2 l==[]
 |n+1,k,l,.p i r=>(T.1&&freeT T.2 l i&&zTb T.2 l i)&&zfb T B ds n k (l.set i true) r
 |n+1,k,l,.t i r=>(k&&takeW T B ds l (l.set i true) i)&&zfb T B ds n k (l.set i true) r
 |n+1,_,l,.e i r=>(zFb T.2 l==[i]&& !ds.contains i)&&zfb T B ds n true (l.set i true) r
 |n+1,_,l,.l i r=>(zFb T.2 l==[i]&&ds.contains i)&&zfb T B ds n false (l.set i true) r
 |n+1,_,l,.two i j ri rj=>(zFb T.2 l==[i,j]&& !ds.contains i&& !ds.contains j)&&zfb T B ds n true (l.set i true) ri&&zfb T B ds n true (l.set j true) rj
 |n+1,_,l,.three i j k ri rj rk=>(zFb T.2 l==[i,j,k]&& !ds.contains i&& !ds.contains j&& !ds.contains k)&&zfb T B ds n true (l.set i true) ri&&zfb T B ds n true (l.set j true) rj&&zfb T B ds n true (l.set k true) rk
 |n+1,_,l,.four i j k m ri rj rk rm=>(zFb T.2 l==[i,j,k,m]&& !ds.contains i&& !ds.contains j&& !ds.contains k&& !ds.contains m)&&zfb T B ds n true (l.set i true) ri&&zfb T B ds n true (l.set j true) rj&&zfb T B ds n true (l.set k true) rk&&zfb T B ds n true (l.set m true) rm
 |0,_,_,_=>false
def regT (ops:Array Oper) (T:Bool×List (List Nat×List Nat)) (B ds:List Nat) (r:Tre):Bool:=rtab .any ops==T&&zQa T.2 B&&zfb T B ds ops.size true (List.replicate ops.size false) r
theorem put_withT (a:Act) (d:Option Tmp) (v:Value):a.put d v={a with tmps:=(a.put d v).tmps}:=by cases d<;>rfl
def Ev1 (P:Program) (o:Oper) (ops:Array Oper) (Q:Exit→Act→World→Prop) (a:Act) (w:World) (G:Act→World→Prop):Prop:=
 ∀K:Act→World→Prop,Shut (∀a' w',G a' w'→K a' w')→if Region.wanted o (yielded ops a.tmps)=true then Oper.wp P o a w K Q else K (a.put o.dst undef) w
def zCa (P:Program) (ops:Array Oper) (Q:Exit→Act→World→Prop) (S:World→Prop):Tre→Act→World→Prop
 | .d,a,w=>Q .normal a w
 | .p i r,a,w=>∃o v,ops[i]?=some o∧Yields P ops o v a∧zCa P ops Q S r (a.put o.dst v) w
 | .t i r,a,w=>∃o v,ops[i]?=some o∧YieldsIf P ops S o v a∧zCa P ops Q S r (a.put o.dst v) w
 | .e i r,a,w=>∃o,ops[i]?=some o∧Ev1 P o ops Q a w (fun a' w'=>S w'∧(S w'→zCa P ops Q S r a' w'))
 | .l i r,a,w=>∃o,ops[i]?=some o∧Ev1 P o ops Q a w (fun a' w'=>zCa P ops Q S r a' w')
 | .two i j ri rj,a,w=>(∃o,ops[i]?=some o∧Ev1 P o ops Q a w (fun a' w'=>S w'∧(S w'→zCa P ops Q S ri a' w')))∧(∃o,ops[j]?=some o∧Ev1 P o ops Q a w (fun a' w'=>S w'∧(S w'→zCa P ops Q S rj a' w')))
 | .three i j k ri rj rk,a,w=>(∃o,ops[i]?=some o∧Ev1 P o ops Q a w (fun a' w'=>S w'∧(S w'→zCa P ops Q S ri a' w')))∧(∃o,ops[j]?=some o∧Ev1 P o ops Q a w (fun a' w'=>S w'∧(S w'→zCa P ops Q S rj a' w')))∧(∃o,ops[k]?=some o∧Ev1 P o ops Q a w (fun a' w'=>S w'∧(S w'→zCa P ops Q S rk a' w')))
 | .four i j k m ri rj rk rm,a,w=>(∃o,ops[i]?=some o∧Ev1 P o ops Q a w (fun a' w'=>S w'∧(S w'→zCa P ops Q S ri a' w')))∧(∃o,ops[j]?=some o∧Ev1 P o ops Q a w (fun a' w'=>S w'∧(S w'→zCa P ops Q S rj a' w')))∧(∃o,ops[k]?=some o∧Ev1 P o ops Q a w (fun a' w'=>S w'∧(S w'→zCa P ops Q S rk a' w')))∧(∃o,ops[m]?=some o∧Ev1 P o ops Q a w (fun a' w'=>S w'∧(S w'→zCa P ops Q S rm a' w')))
theorem zra (hT:rtab .any ops=T) (hB:zQa T.2 B=true) (hQ:∀c (a:Act) ts w,Q (.panic c) {a with tmps:=ts} w→Q (.panic c) a w):∀(r:Tre) (n:Nat) (k:Bool) (l:List Bool) (a:Act) (w:World),
  zfb T B ds n k l r=true→(k=true→S w)→zCa P ops Q S r a w→zI P .any ops Q S ds n l.toArray a w
 | .d,n,k,l,a,w,hc,hS,h=>done_ (by subst hT;rw [zOb];cases n<;>simpa [zfb] using hc) h
 | .p i r,0,k,l,a,w,hc,hS,h=>by simp [zfb] at hc
 | .p i r,n+1,k,l,a,w,hc,hS,h=>by
  simp only [zfb,Bool.and_eq_true] at hc
  obtain ⟨⟨⟨h1,h2⟩,h3⟩,h4⟩:=hc
  obtain ⟨o,v,ho,hy,hr⟩:=h
  refine zia (l.set i true).toArray ho rfl (zQ hT ?_) (fun c a w hh=>hQ c a (a.put o.dst v).tmps w (by rw [←put_withT];exact hh)) hy rfl (zra hT hB hQ r n k _ _ w h4 hS hr)
  simp only [anyT,Bool.and_eq_true]
  exact ⟨⟨⟨h1,h2⟩,h3⟩,by simp⟩
 | .t i r,0,k,l,a,w,hc,hS,h=>by simp [zfb] at hc
 | .t i r,n+1,k,l,a,w,hc,hS,h=>by
  simp only [zfb,Bool.and_eq_true] at hc
  obtain ⟨⟨h1,h2⟩,h4⟩:=hc
  obtain ⟨o,v,ho,hy,hr⟩:=h
  exact take_ (l.set i true).toArray ho rfl (zja hT hB h2) (fun c a w hh=>hQ c a (a.put o.dst v).tmps w (by rw [←put_withT];exact hh)) hy (hS h1) rfl (zra hT hB hQ r n k _ _ w h4 hS hr)
 | .e i r,0,k,l,a,w,hc,hS,h=>by simp [zfb] at hc
 | .e i r,n+1,k,l,a,w,hc,hS,h=>by
  simp only [zfb,Bool.and_eq_true] at hc
  obtain ⟨⟨h1,h2⟩,h4⟩:=hc
  obtain ⟨o,ho,hr⟩:=h
  refine one_ (l.set i true).toArray ho rfl (zVa hT ?_) (by simpa using h2) (fun K hK=>hr K (fun a' w' hs=>hK.out a' w' hs.1 fun hs2=>zra hT hB hQ r n true _ a' w' h4 (fun _=>hs2) (hs.2 hs2)))
  exact zq215
 | .l i r,0,k,l,a,w,hc,hS,h=>by simp [zfb] at hc
 | .l i r,n+1,k,l,a,w,hc,hS,h=>by
  simp only [zfb,Bool.and_eq_true] at hc
  obtain ⟨⟨h1,h2⟩,h4⟩:=hc
  obtain ⟨o,ho,hr⟩:=h
  refine last_ (l.set i true).toArray ho rfl (zVa hT ?_) (by simpa using h2) (fun K hK=>hr K (fun a' w' hs=>hK.out a' w' (zra hT hB hQ r n false _ a' w' h4 (fun h=>by cases h) hs)))
  exact zq215
 | .two i j ri rj,0,k,l,a,w,hc,hS,h=>by simp [zfb] at hc
 | .two i j ri rj,n+1,k,l,a,w,hc,hS,h=>by
  simp only [zfb,Bool.and_eq_true] at hc
  obtain ⟨⟨⟨⟨h1,h2⟩,h3⟩,h4⟩,h5⟩:=hc
  obtain ⟨⟨oi,hoi,hri⟩,oj,hoj,hrj⟩:=h
  refine two_ (l.set i true).toArray (l.set j true).toArray hoi hoj rfl rfl (two_of hT ?_) (by simpa using h2) (by simpa using h3) (fun K hK=>hri K (fun a' w' hs=>hK.out a' w' hs.1 fun hs2=>zra hT hB hQ ri n true _ a' w' h4 (fun _=>hs2) (hs.2 hs2))) (fun K hK=>hrj K (fun a' w' hs=>hK.out a' w' hs.1 fun hs2=>zra hT hB hQ rj n true _ a' w' h5 (fun _=>hs2) (hs.2 hs2)))
  simp only [Bool.and_eq_true]
  exact ⟨⟨h1,by simp⟩,by simp⟩
 | .three i j k ri rj rk,0,k_,l,a,w,hc,hS,h=>by simp [zfb] at hc
 | .three i j k ri rj rk,n+1,k_,l,a,w,hc,hS,h=>by
  simp only [zfb,Bool.and_eq_true,beq_iff_eq] at hc
  obtain ⟨⟨⟨⟨⟨⟨h1,ci⟩,cj⟩,ck⟩,wi⟩,wj⟩,wk⟩:=hc
  obtain ⟨⟨oi,hoi,hri⟩,⟨oj,hoj,hrj⟩,⟨ok,hok,hrk⟩⟩:=h
  refine zRa (rs:=[i,j,k]) (by rw [zOb,hT];exact h1) zq38 (AllReadyL.cons hoi (by simpa using ci) (fun K hK=>hri K (fun a' w' hs=>hK.out a' w' hs.1 fun hs2=>by rw [show l.toArray.setIfInBounds i true=(l.set i true).toArray by simp];exact zra hT hB hQ ri n true _ a' w' wi (fun _=>hs2) (hs.2 hs2))) (AllReadyL.cons hoj (by simpa using cj) (fun K hK=>hrj K (fun a' w' hs=>hK.out a' w' hs.1 fun hs2=>by rw [show l.toArray.setIfInBounds j true=(l.set j true).toArray by simp];exact zra hT hB hQ rj n true _ a' w' wj (fun _=>hs2) (hs.2 hs2))) (AllReadyL.cons hok (by simpa using ck) (fun K hK=>hrk K (fun a' w' hs=>hK.out a' w' hs.1 fun hs2=>by rw [show l.toArray.setIfInBounds k true=(l.set k true).toArray by simp];exact zra hT hB hQ rk n true _ a' w' wk (fun _=>hs2) (hs.2 hs2))) AllReadyL.nil)))
 | .four i j k m ri rj rk rm,0,k_,l,a,w,hc,hS,h=>by simp [zfb] at hc
 | .four i j k m ri rj rk rm,n+1,k_,l,a,w,hc,hS,h=>by
  simp only [zfb,Bool.and_eq_true,beq_iff_eq] at hc
  obtain ⟨⟨⟨⟨⟨⟨⟨⟨h1,ci⟩,cj⟩,ck⟩,cm⟩,wi⟩,wj⟩,wk⟩,wm⟩:=hc
  obtain ⟨⟨oi,hoi,hri⟩,⟨oj,hoj,hrj⟩,⟨ok,hok,hrk⟩,⟨om,hom,hrm⟩⟩:=h
  refine zRa (rs:=[i,j,k,m]) (by rw [zOb,hT];exact h1) zq38 (AllReadyL.cons hoi (by simpa using ci) (fun K hK=>hri K (fun a' w' hs=>hK.out a' w' hs.1 fun hs2=>by rw [show l.toArray.setIfInBounds i true=(l.set i true).toArray by simp];exact zra hT hB hQ ri n true _ a' w' wi (fun _=>hs2) (hs.2 hs2))) (AllReadyL.cons hoj (by simpa using cj) (fun K hK=>hrj K (fun a' w' hs=>hK.out a' w' hs.1 fun hs2=>by rw [show l.toArray.setIfInBounds j true=(l.set j true).toArray by simp];exact zra hT hB hQ rj n true _ a' w' wj (fun _=>hs2) (hs.2 hs2))) (AllReadyL.cons hok (by simpa using ck) (fun K hK=>hrk K (fun a' w' hs=>hK.out a' w' hs.1 fun hs2=>by rw [show l.toArray.setIfInBounds k true=(l.set k true).toArray by simp];exact zra hT hB hQ rk n true _ a' w' wk (fun _=>hs2) (hs.2 hs2))) (AllReadyL.cons hom (by simpa using cm) (fun K hK=>hrm K (fun a' w' hs=>hK.out a' w' hs.1 fun hs2=>by rw [show l.toArray.setIfInBounds m true=(l.set m true).toArray by simp];exact zra hT hB hQ rm n true _ a' w' wm (fun _=>hs2) (hs.2 hs2))) AllReadyL.nil))))
theorem zfa {id:Nat} (hc:regT ops T B ds r=true) (hm:P.follows .mixedOrders=true) (hQ:∀c (a:Act) ts w,Q (.panic c) {a with tmps:=ts} w→Q (.panic c) a w) (hS:S w.drew) (h:S w.drew→zCa P ops Q S r a w.drew):(Code.region id ops true).wp P Q a w:=by
 simp only [regT,Bool.and_eq_true,beq_iff_eq] at hc
 obtain ⟨⟨h1,h2⟩,h4⟩:=hc
 refine zVb (ds:=ds) (List.replicate ops.size false).toArray hm rfl zq38 hS (fun hs=> ?_)
 exact zra h1 h2 hQ r _ true _ a _ h4 (fun _=>hs) (h hs)
theorem zM (ho:ops[i]?=some o) (hN:o.dst=N) (hy:Yields P ops o v a) {a':Act} (ha:a.put N v=a') (h:zCa P ops Q S r a' w):zCa P ops Q S (.p i r) a w:=by
 subst hN;subst ha;exact ⟨o,v,ho,hy,h⟩
theorem tre_t (ho:ops[i]?=some o) (hN:o.dst=N) (hy:YieldsIf P ops S o v a) {a':Act} (ha:a.put N v=a') (h:zCa P ops Q S r a' w):zCa P ops Q S (.t i r) a w:=by
 subst hN;subst ha;exact ⟨o,v,ho,hy,h⟩
theorem zS (ho:ops[i]?=some o) (h:Ev1 P o ops Q a w (fun a' w'=>S w'∧(S w'→zCa P ops Q S r a' w'))):zCa P ops Q S (.e i r) a w:=⟨o,ho,h⟩
theorem tre_l (ho:ops[i]?=some o) (h:Ev1 P o ops Q a w (fun a' w'=>zCa P ops Q S r a' w')):zCa P ops Q S (.l i r) a w:=⟨o,ho,h⟩
theorem zob {oj:Oper} (ho:ops[i]?=some o) (hoj:ops[j]?=some oj) (h:Ev1 P o ops Q a w (fun a' w'=>S w'∧(S w'→zCa P ops Q S ri a' w'))) (h2:Ev1 P oj ops Q a w (fun a' w'=>S w'∧(S w'→zCa P ops Q S rj a' w'))):zCa P ops Q S (.two i j ri rj) a w:=⟨⟨o,ho,h⟩,oj,hoj,h2⟩
theorem tre_three {k:Nat} {rk:Tre} {oj ok:Oper} (ho:ops[i]?=some o) (hoj:ops[j]?=some oj) (hok:ops[k]?=some ok) (h:Ev1 P o ops Q a w (fun a' w'=>S w'∧(S w'→zCa P ops Q S ri a' w'))) (h2:Ev1 P oj ops Q a w (fun a' w'=>S w'∧(S w'→zCa P ops Q S rj a' w'))) (h3:Ev1 P ok ops Q a w (fun a' w'=>S w'∧(S w'→zCa P ops Q S rk a' w'))):zCa P ops Q S (.three i j k ri rj rk) a w:=⟨⟨o,ho,h⟩,⟨oj,hoj,h2⟩,ok,hok,h3⟩
theorem tre_four {k m:Nat} {rk rm:Tre} {oj ok om:Oper} (ho:ops[i]?=some o) (hoj:ops[j]?=some oj) (hok:ops[k]?=some ok) (hom:ops[m]?=some om) (h:Ev1 P o ops Q a w (fun a' w'=>S w'∧(S w'→zCa P ops Q S ri a' w'))) (h2:Ev1 P oj ops Q a w (fun a' w'=>S w'∧(S w'→zCa P ops Q S rj a' w'))) (h3:Ev1 P ok ops Q a w (fun a' w'=>S w'∧(S w'→zCa P ops Q S rk a' w'))) (h4:Ev1 P om ops Q a w (fun a' w'=>S w'∧(S w'→zCa P ops Q S rm a' w'))):zCa P ops Q S (.four i j k m ri rj rk rm) a w:=⟨⟨o,ho,h⟩,⟨oj,hoj,h2⟩,⟨ok,hok,h3⟩,om,hom,h4⟩
theorem zX (h:Q .normal a w):zCa P ops Q S .d a w:=h
theorem zw {a':Act} (ha:a=a') (h:zCa P ops Q S r a' w):zCa P ops Q S r a w:=by subst ha;exact h
theorem zC {G:Act→World→Prop} {f:FuncId} {fn:Func} {aa:Array Operand} {ts:Array TypeId} (hN:o.dst=N) (hf:P.funcs[f]?=some fn) (hname:(fn.name== "runtime.NumGoroutine")=false) (hb:fn.body.isSome=true) (args:Array Value)
  (hw:Region.wanted o (yielded ops a.tmps)=true) (hop:o.op= .call {callee:= .value (.func f),args:=aa,argTypes:=ts}) (hargs:aa.map a.eval=args)
  (h:Calls P f args w fun e w'=>∃v,e= .returned v∧G (a.put N v) w'):Ev1 P o ops Q a w G:=by
 subst hN
 exact fun K hK=>goes_ hf hname hb args hw rfl hop hargs (h.mono fun e w' ⟨v,he,hk⟩=>⟨v,he,hK.out _ _ hk⟩)
theorem zAa {G:Act→World→Prop} (hN:o.dst=N) (hw:Region.wanted o (yielded ops a.tmps)=true) (ty:TypeId) (hop:o.op= .alloc ty) (cs:List Value) (hz:(zeroValue ty).run P w= .ok (.agg cs.toArray) w)
  (h:G (a.put N (.pointer (some ⟨w.heap.size,0,none⟩))) (w.alloc (.cells cs.toArray ty))):Ev1 P o ops Q a w G:=by
 intro K hK
 subst hN
 rw [if_pos hw]
 unfold Oper.wp execOp
 simp only [hop,Instr.alloc,Sem.run_bind,hz,Result.andThen_ok,newVar,Value.cells,Sem.run_pure]
 exact hK.out _ _ h
end
end Go.Proofs.YtonhdiemjgdcnaaGreatW.PrintLast
namespace Go.Proofs.YtonhdiemjgdcnaaGreat.PFnExactGivePage
open Go.RowKit Go.Proofs.YtonhdiemjgdcnaaGreatW.PrintWords Go.Proofs.YtonhdiemjgdcnaaGreatW.PrintLast Go.Proofs.YtonhdiemjgdcnaaGreatW.PrintMore
section
variable {P:Program} {ops:Array Oper} {Q:Exit→Act→World→Prop} {S:World→Prop} {G:Act→World→Prop} {N:Option Tmp} {o:Oper} {a:Act} {w:World} {i:Nat} {r:Tre}
theorem zB (ho:ops[i]?=some o) (hN:o.dst=N) (hw:Region.wanted o (yielded ops a.tmps)=true) (ty:TypeId) (x:Operand) (hop:o.op= .load ty x) (g off:Nat) (pre mid post:List Value) {cs:List Value} {t:TypeId} (d:TypeDesc) (hx:a.eval x= .pointer (some ⟨g,off,none⟩)) (hg:∀w',S w'→w'.heap[g]?=some (.cells cs.toArray t (0,0))) (e:cs=pre++(mid++post)) (hp:pre.length=off)
  (hu:P.underlying ty=some d) (hd:d.isRow=true) (hi:(P.info? ty).map (·.size)=some mid.length) {a':Act} (ha:a.put N (.agg mid.toArray)=a') (h:zCa P ops Q S r a' w):zCa P ops Q S (.t i r) a w:=
 tre_t ho hN (.inl ⟨hw,fun w' hs=>run_loadpart ty x hop g off pre mid post d hx (hg w' hs) e hp hu hd hi⟩) ha h
theorem zL (ho:ops[i]?=some o) (hN:o.dst=N) (hw:Region.wanted o (yielded ops a.tmps)=true) (ty:TypeId) (x:Operand) (hop:o.op= .load ty x) (g off:Nat) (pre:List Value) (v:Value) (post:List Value) {cs:List Value} {t:TypeId} (d:TypeDesc) (hx:a.eval x= .pointer (some ⟨g,off,none⟩)) (hg:∀w',S w'→w'.heap[g]?=some (.cells cs.toArray t (0,0))) (e:cs=pre++([v]++post)) (hp:pre.length=off)
  (hu:P.underlying ty=some d) (hd:d.isRow=false) {a':Act} (ha:a.put N v=a') (h:zCa P ops Q S r a' w):zCa P ops Q S (.t i r) a w:=
 tre_t ho hN (.inl ⟨hw,fun w' hs=>run_loadcell ty x hop g off pre v post hx (hg w' hs) e hp hu hd⟩) ha h
theorem zA (hN:o.dst=none) (hw:Region.wanted o (yielded ops a.tmps)=true) (ty:TypeId) (x y:Operand) (hop:o.op= .store ty x y) (g off:Nat) (new pre mid post:List Value) {cs:List Value} {t:TypeId} (hx:a.eval x= .pointer (some ⟨g,off,none⟩)) (hy:a.eval y= .agg new.toArray) (hg:w.heap[g]?=some (.cells cs.toArray t (0,0))) (e:cs=pre++(mid++post)) (hp:pre.length=off)
  (hl:new.length=mid.length) (hi:(P.info? ty).map (·.size)=some new.length) (h1:∀v∈new,v.oneCell'=true)
  (h:∀W',Put1 w W' g→W'.heap[g]?=some (.cells (pre++(new++post)).toArray t (0,0))→G a W'):Ev1 P o ops Q a w G:=by
 intro K hK
 rw [if_pos hw]
 refine wp_store_mid ty x y hop g off new.toArray hx hy zq130 (by rw [List.size_toArray];exact hi) (Array.all_eq_true_iff_forall_mem.2 (fun v hv=>h1 v (by simpa using hv))) ?_
 rw [show a.put o.dst undef=a by rw [hN];rfl]
 refine hK.out _ _ (h _ (Put1.cells off _) ?_)
 subst e;subst hp
 exact zjc new mid pre post w hl hg
theorem ev1_storecell (hN:o.dst=none) (hw:Region.wanted o (yielded ops a.tmps)=true) (ty:TypeId) (x y:Operand) (hop:o.op= .store ty x y) (g off:Nat) (v u:Value) (pre post:List Value) {cs:List Value} {t:TypeId} (hx:a.eval x= .pointer (some ⟨g,off,none⟩)) (hy:a.eval y=v) (hg:w.heap[g]?=some (.cells cs.toArray t (0,0))) (e:cs=pre++([u]++post)) (hp:pre.length=off)
  (hi:(P.info? ty).map (·.size)=some 1) (h1:v.oneCell'=true) (hc:v.cells= #[v])
  (h:∀W',Put1 w W' g→W'.heap[g]?=some (.cells (pre++([v]++post)).toArray t (0,0))→G a W'):Ev1 P o ops Q a w G:=by
 intro K hK
 rw [if_pos hw]
 have hth:=part_there hg e hp
 have hrun:=run_storeCells_cells (P:=P) g off [v] 0 w (fun j hj=>(hth j hj).1) (fun j hj=>(hth j hj).2) (fun q hq=>by rw [List.mem_singleton.1 hq];exact h1)
 have hs:(storeVar ty ⟨g,off,none⟩ v).run P w= .ok () (w.setCells g off [v]):=zq165
 unfold Oper.wp execOp
 simp only [hop,hx,hy,Instr.storeAt,Instr.sureAddr,Sem.run_bind,Sem.run_pure,Result.andThen_ok,hs]
 show K (a.put o.dst undef) _
 rw [show a.put o.dst undef=a by rw [hN];rfl]
 refine hK.out _ _ (h _ (Put1.cells off _) ?_)
 subst e;subst hp
 exact zjc [v] [u] pre post w rfl hg
theorem zaa {pl:Nat→Option (Nat×Nat)} {i:Nat} {v:Value} {new pre mid post cs:List Value} {rest:List (Nat×Value)} {z:Option (Array Value)} (hv:v.cells=new.toArray) (e:cs=pre++(mid++post)) (hp:pl i=some (pre.length,new.length)) (hl:new.length=mid.length)
  (h:Instr.fill pl (pre++(new++post)).toArray rest=z):Instr.fill pl cs.toArray ((i,v)::rest)=z:=by
 subst e
 subst h
 have hz:∀(new mid pre post:List Value),new.length=mid.length→(new.zipIdx).foldl (fun (cs:Array Value) (c,j)=>cs.setIfInBounds (pre.length+j) c) (pre++(mid++post)).toArray=(pre++(new++post)).toArray:=by
  intro new
  induction new with
  |nil=>intro mid pre post h;cases mid<;>simp_all
  |cons n ns ih=>
   intro mid pre post h
   cases mid with
   |nil=>simp at h
   |cons m ms=>
    have ih:=ih ms (pre++[n]) post (by simpa using h)
    rw [List.zipIdx_cons,List.foldl_cons]
    have hs:(pre++((m::ms)++post)).toArray.setIfInBounds (pre.length+0) n=((pre++[n])++(ms++post)).toArray:=zq38
    simp only [hs]
    have h2:(ns.zipIdx (0+1)).foldl (fun (cs:Array Value) (x:Value×Nat)=>cs.setIfInBounds (pre.length+x.2) x.1) ((pre++[n])++(ms++post)).toArray=(ns.zipIdx).foldl (fun (cs:Array Value) (x:Value×Nat)=>cs.setIfInBounds ((pre++[n]).length+x.2) x.1) ((pre++[n])++(ms++post)).toArray:=by
     rw [List.zipIdx_succ,List.foldl_map]
     congr 1
     funext cs x
     simp [Nat.add_assoc,Nat.add_comm 1]
    refine Eq.trans h2 ?_
    rw [ih]
    simp
 simp only [Instr.fill,hp,hv,List.size_toArray]
 rw [if_neg (by simp [hl])]
 have:=hz new mid pre post hl
 rw [←this]
 congr 1
 simp [←Array.foldl_toList]
theorem zvb (ty:TypeId) (parts:Array (Nat×Operand)) (ho:o.op= .build ty parts) (zs:List Value) (hz:∀w,(zeroValue ty).run P w= .ok (.agg zs.toArray) w) (fields:Array Field) (hu:P.underlying ty=some (.struct fields)) (pl:Array (Nat×Nat))
  (hp:∀w,(fields.mapM fun f=>do pure (f.offset,←sizeOf f.type):Sem (Array (Nat×Nat))).run P w= .ok pl w) (vs:List (Nat×Value)) (hvs:parts.map (fun (i,x)=>(i,a.eval x))=vs.toArray) (res:List Value) (hf:Instr.fill (pl[·]?) zs.toArray vs=some res.toArray):∀W,(execOp a.eval o).run P W= .ok (.value (.agg res.toArray)) W:=by
 intro W
 have hv2:Array.map (fun x=>(x.1,a.eval x.2)) parts=vs.toArray:=hvs
 unfold execOp
 simp only [ho,Instr.build,Sem.run_bind,hz,Result.andThen_ok,run_underlying hu,hp,Value.cells,hv2,hf,Sem.run_pure,Sem.run_map,Functor.map]
end
end Go.Proofs.YtonhdiemjgdcnaaGreat.PFnExactGivePage
namespace Go.Proofs.YtonhdiemjgdcnaaGreat.PFnExactGivePage
open Go.RowKit Go.Proofs.YtonhdiemjgdcnaaGreatW.PrintWords Go.Proofs.YtonhdiemjgdcnaaGreatW.PrintLast Go.Proofs.YtonhdiemjgdcnaaGreatW.PrintMore
attribute [local go_sem] zma zla zwa zxa zba zca zoa zna
abbrev Z37:List Value:=[.slice none 0 0,.slice none 0 0]
abbrev Z44:List Value:=[.slice none 0 0,.slice none 0 0,.int .i64 0,.slice none 0 0,.slice none 0 0,.slice none 0 0]
abbrev Z40:List Value:=[.int .i64 0,.int .i64 0,.int .i64 0,.slice none 0 0]
abbrev Z46:List Value:=[.int .i64 0,.int .i64 0,.int .i64 0,.slice none 0 0,.slice none 0 0,.slice none 0 0,.int .i64 0,.slice none 0 0,.slice none 0 0,.slice none 0 0,.int .i64 0]
abbrev Z67:List Value:=[.slice none 0 0,.slice none 0 0,.int .i64 0,.int .i64 0,.int .i64 0,.slice none 0 0,.slice none 0 0,.int .i64 0,.int .i64 0,.int .i64 0,.slice none 0 0,.slice none 0 0,.slice none 0 0,.int .i64 0,.slice none 0 0,.slice none 0 0,.slice none 0 0,.int .i64 0,.bool false,.bool false]
abbrev Z135:List Value:=[.int .i64 0,.int .i64 0,.int .i64 0,.int .i64 0,.slice none 0 0]
theorem Env.cell {w0 W:World} {top:Nat} {fs:List Fct} (E:Env w0 W top fs) {a:Addr} {v:Value} (h:w0.cell? a=some v):W.cell? a=some v:=(E.below.cell (z0a w0 _ h)).trans h
theorem Env.range {w0 W:World} {top:Nat} {fs:List Fct} (E:Env w0 W top fs) {b o:Nat} {cs:List Value} (h:w0.rangeAt b o cs):W.rangeAt b o cs:=fun j v hv=>E.cell (h j v hv)
theorem elem_at {α:Type} {d:Kd α} {w:World} {A:Option Addr} {n:Nat} {xs:List α} (h:Kd.C d w A n xs) {i:Nat} (hi:i<xs.length) (hz:0<d.sz):∃ad v cs,A=some ad∧d.K w xs[i] (v::cs)∧w.cell? (ad.add (i*d.sz))=some v∧w.rangeAt (ad.add (i*d.sz)).block ((ad.add (i*d.sz)).off+1) cs:=by
 obtain ⟨h1,h2,h3⟩:=h
 obtain ⟨ad,e,hc⟩:=h3 zq9
 obtain ⟨c,hs,hr,hcell⟩:=hc i _ (List.getElem?_eq_getElem hi)
 cases c with
 |nil=>rw [List.length_nil] at hs;omega
 |cons v cs=>
  refine ⟨ad,v,cs,e,hr,hcell 0 v rfl,fun j u hj=> ?_⟩
  have:=hcell (j+1) u (by simpa using hj)
  rw [zmb _ _ (j+1) zq9] at this
  rw [Nat.add_assoc,Nat.add_comm 1 j]
  exact this
section
variable {P:Program} {ops:Array Oper} {Q:Exit→Act→World→Prop} {S:World→Prop} {G:Act→World→Prop} {N:Option Tmp} {o:Oper} {a:Act} {w:World} {i:Nat} {r:Tre}
theorem tre_loadrange (ho:ops[i]?=some o) (hN:o.dst=N) (hw:Region.wanted o (yielded ops a.tmps)=true) (ty:TypeId) (x:Operand) (hop:o.op= .load ty x) (g off:Nat) (mid:List Value) (d:TypeDesc) (hx:a.eval x= .pointer (some ⟨g,off,none⟩)) (hg:∀w',S w'→w'.rangeAt g off mid)
  (hu:P.underlying ty=some d) (hd:d.isRow=true) (hi:(P.info? ty).map (·.size)=some mid.length) {a':Act} (ha:a.put N (.agg mid.toArray)=a') (h:zCa P ops Q S r a' w):zCa P ops Q S (.t i r) a w:=
 tre_t ho hN (.inl ⟨hw,fun w' hs=>by
  unfold execOp
  simp only [hop,hx,Instr.loadAt,Instr.sureAddr,Sem.run_bind,Sem.run_pure,Result.andThen_ok,run_loadVar_mid w' g off ty mid d (hg w' hs) hu hd hi]⟩) ha h
theorem tre_loadat (ho:ops[i]?=some o) (hN:o.dst=N) (hw:Region.wanted o (yielded ops a.tmps)=true) (ty:TypeId) (x:Operand) (hop:o.op= .load ty x) (p:Addr) (v:Value) (d:TypeDesc) (hx:a.eval x= .pointer (some p)) (hg:∀w',S w'→w'.cell? p=some v)
  (hu:P.underlying ty=some d) (hd:d.isRow=false) {a':Act} (ha:a.put N v=a') (h:zCa P ops Q S r a' w):zCa P ops Q S (.t i r) a w:=
 tre_t ho hN (.inl ⟨hw,fun w' hs=>by
  have hagg:(isAgg ty).run P w'= .ok false w':=by
   unfold isAgg
   rw [Sem.run_bind,run_underlying hu w']
   cases d<;>simp_all
  unfold execOp
  simp [hop,hx,Instr.loadAt,Instr.sureAddr,Sem.run_bind,loadVar,hagg,run_load,hg w' hs]⟩) ha h
theorem ev1_lit1 (hN:o.dst=N) (hw:Region.wanted o (yielded ops a.tmps)=true) (t e:TypeId) (x:Operand) (hop:o.op= .buildSlice t 1 #[(0,x)]) (hu:P.underlying t=some (.slice e)) (zs:List Value) (hz:(zeroValue e).run P w= .ok (.agg zs.toArray) w) (hs:(sizeOf e).run P w= .ok zs.length w)
  (hz2:(Array.range (1*zs.length)).map (zs.toArray[·%zs.toArray.size]!)=zs.toArray) (h0:0<zs.length) (h1:zs.length≤1000) (cs:List Value) (hx:a.eval x= .agg cs.toArray) (hl:cs.length=zs.length)
  (h:G (a.put N (.slice (some ⟨w.heap.size,0,none⟩) 1 1)) (w.alloc (.cells cs.toArray e))):Ev1 P o ops Q a w G:=by
 intro K hK
 subst hN
 rw [if_pos hw]
 have hf:Instr.fill (fun i=>some (i*zs.length,zs.length)) zs.toArray [(0,.agg cs.toArray)]=some cs.toArray:=by
  refine zaa (new:=cs) (pre:=[]) (mid:=zs) (post:=[]) rfl zq38 (by simp [hl]) hl ?_
  simp [Instr.fill]
 have hz3:(do pure (←zeroValue e).cells:Sem (Array Value)).run P w= .ok zs.toArray w:=by simp [Sem.run_bind,hz,Value.cells]
 have hne:¬1*zs.length=0:=zq9
 have hle:¬1*zs.length>2^24:=zq9
 unfold Oper.wp execOp
 simp only [hop,Instr.buildSlice,Sem.run_bind,run_underlying hu,hs,Result.andThen_ok,List.map_toArray,List.map_cons,List.map_nil,hx,hz2,hf,if_neg hne,if_neg hle,hz,Value.cells,Sem.run_pure,newRow,Sem.run_map,Functor.map]
 exact hK.out _ _ h
end
section
variable {P:Program} {ops:Array Oper} {rest:List Oper} {o:Oper} {a:Act} {Q:Exit→Act→World→Prop} {W:World}
theorem ev_loadpart_w (hw:Region.wanted o (yielded ops a.tmps)=true) (ty:TypeId) (x:Operand) (ho:o.op= .load ty x) (g off:Nat) (pre mid post:List Value) {cs:List Value} {t:TypeId} (d:TypeDesc) (hx:a.eval x= .pointer (some ⟨g,off,none⟩)) (hg:W.heap[g]?=some (.cells cs.toArray t (0,0))) (e:cs=pre++(mid++post)) (hp:pre.length=off)
  (hu:P.underlying ty=some d) (hd:d.isRow=true) (hi:(P.info? ty).map (·.size)=some mid.length) (h:wpList P ops Q rest (a.put o.dst (.agg mid.toArray)) W):wpList P ops Q (o::rest) a W:=by
 refine wpList_step fun K hK=> ?_
 rw [if_pos hw]
 unfold Oper.wp
 rw [run_loadpart ty x ho g off pre mid post d hx hg e hp hu hd hi]
 exact hK _ _ h
end
def Off2 (lo hi:Nat):List Fct→Nat→Prop
 |[],_=>True
 |_::fs,0=>Off2A lo hi fs
 |f::fs,n+1=>(f.hi≤lo∨hi≤f.lo)∧Off2 lo hi fs n
where Off2A (lo hi:Nat):List Fct→Prop
 |[]=>True
 |f::fs=>(f.hi≤lo∨hi≤f.lo)∧Off2A lo hi fs
theorem All.off2A {W W':World} {top top' lo hi:Nat} (hk:∀k,k<top→(k<lo∨hi≤k)→W'.heap[k]?=W.heap[k]?) (ht:top≤top'):∀{fs:List Fct},All W top fs→Off2.Off2A lo hi fs→All W' top' fs
 |[],_,_=>trivial
 |f::_,⟨⟨h1,h2⟩,h3⟩,⟨h4,h5⟩=>⟨⟨z5a h1 ht,f.mv (fun k h6 h7=>hk k zq9 zq9) h2⟩,All.off2A hk ht h3 h5⟩
theorem All.off2 {W W':World} {top top' lo hi:Nat} (hk:∀k,k<top→(k<lo∨hi≤k)→W'.heap[k]?=W.heap[k]?) (ht:top≤top') {f':Fct} (h1':f'.hi≤top') (hf:f'.P W'):∀{fs:List Fct} (i:Nat),All W top fs→Off2 lo hi fs i→All W' top' (fs.set i f')
 |[],i,_,_=>by cases i<;>exact trivial
 |_::_,0,⟨_,h3⟩,h5=>⟨⟨h1',hf⟩,All.off2A hk ht h3 h5⟩
 |f::_,i+1,⟨⟨h1,h2⟩,h3⟩,⟨h4,h5⟩=>⟨⟨z5a h1 ht,f.mv (fun k h6 h7=>hk k zq9 zq9) h2⟩,All.off2 hk ht h1' hf i h3 h5⟩
section
variable {P:Program} {ops:Array Oper} {Q:Exit→Act→World→Prop} {G:Act→World→Prop} {N:Option Tmp} {o:Oper} {a:Act}
theorem ev1_append {w0 W:World} {top:Nat} {fs:List Fct} (E:Env w0 W top fs) (hN:o.dst=N) (hw:Region.wanted o (yielded ops a.tmps)=true) (s x:Operand) (t e:TypeId) (z:Value) (bytes:Nat)
  (ho:o.op= .call {callee:= .builtin .append,args:= #[s,x],argTypes:= #[t,t]}) {α:Type} (d:Kd α)
  (ht:P.underlying t=some (.slice e)) (hinfo:(P.info? e).map (fun i=>(i.zero,i.size,i.bytes))=some (some z,d.sz,bytes)) (hz:z.cells.size=d.sz) (hs0:0<d.sz) (hb0:0<bytes)
  (i:Nat) {lo hi:Nat} {v:Value} {xs:List α} (hf:fs[i]?=some (Fct.made (Own.srow e d) w0.heap.size lo hi (fun _=>True) xs [v])) {p:α} {cs:List Value} (q:Nat→Prop) (hp:d.M W w0.heap.size q p cs) (hq:∀k,q k→hi≤k) (hlo:lo≤hi) (hlt:lo≤top)
  (hs:a.eval s=v) (hx:a.eval x= .slice (some ⟨W.heap.size,0,none⟩) 1 1) (hl:(xs.length+1)*bytes≤140737488355328) (hoff:Off2 lo hi fs i)
  (h:∀v1 w1 m,(top≤m)→Env w0 w1 m (fs.set i (Fct.made (Own.srow e d) w0.heap.size lo m (fun _=>True) (xs++[p]) [v1]))→G (a.put N v1) w1):Ev1 P o ops Q a (W.alloc (.cells cs.toArray e)) G:=by
 intro K hK
 subst hN
 obtain ⟨v',hv,hS⟩:=E.made i hf
 injection hv with hv
 subst hv
 have hown:∀k,v.ownBlock=some k→True∧Iv lo hi k:=hS.choose_spec.1
 refine Kd.S_append_step d (w0:=w0) w0.heap.size hw s x t e z bytes ho ht hinfo hz hs0 hb0 v xs p cs (fun k=>lo≤k) q hs hx hp (fun k hk=>⟨z5a hlo (hq k hk),fun e=>by have:=(hown k e.symm).2.2;have:=hq k hk;omega⟩) (fun k hk=>z5a hlt (z5a E.le hk)) (Kd.S_mono hS (fun k hk=>⟨hk.2.1,fun h2=>by have:=hk.2.2;have:=hq k h2;omega⟩)) E.below E.below.size hl ?_
 intro v1 w1 hS1 hB hg _
 refine hK.out _ _ (h v1 w1 w1.heap.size (z5a E.le hg.size) ⟨hB,z3a _,hB.size,All.off2 (fun k hk hk2=>hg.block k (z4a hk E.le) (fun e=> ?_)) (z5a E.le hg.size) (z3a _) ?_ i E.all hoff⟩)
 ·have:=(hown k e.symm).2
  obtain ⟨h1,h2⟩:=this
  omega
 ·exact ⟨v1,rfl,Kd.S_mono (Kd.S_bound hS1) (fun k hk=>⟨trivial,hk.1,hk.2.2.1⟩)⟩
end
def Fct.nil:Fct:=⟨0,0,fun _=>True,fun _ h=>h⟩
theorem All.set {W:World} {top:Nat} {f':Fct}:∀{fs:List Fct} (i:Nat),f'.hi≤top→f'.P W→All W top fs→All W top (fs.set i f')
 |[],i,_,_,_=>by cases i<;>exact trivial
 |_::_,0,h1,h2,⟨_,h3⟩=>⟨⟨h1,h2⟩,h3⟩
 |_::_,i+1,h1,h2,⟨h4,h3⟩=>⟨h4,All.set i h1 h2 h3⟩
theorem Env.nil_ {w0 W:World} {top:Nat} {fs:List Fct} (E:Env w0 W top fs):Env w0 W top (Fct.nil::fs):=⟨E.below,E.le,E.ge,⟨z0b _,trivial⟩,E.all⟩
theorem Env.madeAt {w0 W W':World} {top:Nat} {fs:List Fct} (E:Env w0 W top fs) (i:Nat) {α:Type} {d:Kd α} {x:α} {cs:List Value} (M:d.M W' W.heap.size (Fr W W') x cs) (hb:Below W.heap.size W W'):∃n m,(top≤n∧n≤m)∧Env w0 W' m (fs.set i (Fct.made d w0.heap.size n m (fun _=>True) x cs)):=by
 obtain ⟨n,m,h1,h2⟩:=E.made_ M hb
 exact ⟨n,m,h1,h2.below,h2.le,h2.ge,All.set i h2.all.1.1 h2.all.1.2 h2.all.2⟩
theorem zeb {α:Type} {d:Kd α} {e:Nat} {W:World} {base:Nat} {p:Nat→Prop} {xs:List α} {v:Value} (h:(Own.srow e d).M W base p xs [v]):(Own.arow e d).M W base p xs [v]:=by
 obtain ⟨v',hv,hS⟩:=h
 injection hv with hv
 subst hv
 exact Own.arow_of_S hS
theorem S_made0 {α:Type} (d:Kd α) (e base:Nat) (w:World) (ok:Nat→Prop) (hb:base≤w.heap.size) (hok:ok w.heap.size):Kd.S d e (w.alloc (.cells #[] e)) base ok (.slice (some ⟨w.heap.size,0,none⟩) 0 0) []:=
 ⟨fun _=>0,fun k hk=>by simp [Value.ownBlock] at hk;rw [←hk];exact hok,[],World.ownsRow_made w #[] 0 hb zq31 zq38,Reps.none _ _⟩
section
variable {P:Program} {ops:Array Oper} {Q:Exit→Act→World→Prop} {G:Act→World→Prop} {N:Option Tmp} {o:Oper} {a:Act} {w0 W:World} {top:Nat} {fs:List Fct}
theorem ev1_lit0 (E:Env w0 W top fs) (i:Nat) (hN:o.dst=N) (hw:Region.wanted o (yielded ops a.tmps)=true) (t e:TypeId) (hop:o.op= .buildSlice t 0 #[]) (hu:P.underlying t=some (.slice e)) (sz:Nat) (hs:(sizeOf e).run P W= .ok sz W) {α:Type} (d:Kd α)
  (h:∀g W',top≤g→Env w0 W' (g+1) (fs.set i (Fct.made (Own.srow e d) w0.heap.size g (g+1) (fun _=>True) [] [.slice (some ⟨g,0,none⟩) 0 0]))→G (a.put N (.slice (some ⟨g,0,none⟩) 0 0)) W'):Ev1 P o ops Q a W G:=by
 intro K hK
 subst hN
 rw [if_pos hw]
 have hz:(Array.range (0*sz)).map ((#[]:Array Value)[·%(#[]:Array Value).size]!)= #[]:=zq38
 have hle:¬0*sz>2^24:=zq38
 have h0:0*sz=0:=zq38
 have hr:Array.range 0= #[]:=rfl
 unfold Oper.wp execOp
 simp only [hop,Instr.buildSlice,Sem.run_bind,run_underlying hu,hs,Result.andThen_ok,List.map_toArray,List.map_nil,if_neg hle,h0,if_true,Instr.fill,Sem.run_pure,newRow,Sem.run_map,Functor.map,hr,Array.map_empty]
 refine hK.out _ _ (h W.heap.size (W.alloc (.cells #[] e)) E.le ?_)
 have E1:=E.call (zo (z1a W.heap.size W) (.cells #[] e))
 exact ⟨E1.below,by simp,Nat.le_succ_of_le E.below.size,All.set i (Nat.le_refl _) (show Fct.P _ _ from ⟨_,rfl,Kd.S_mono (S_made0 d e w0.heap.size W (fun k=>k=W.heap.size) E.below.size rfl) (fun k hk=>⟨trivial,by rw [hk];exact ⟨z3a _,Nat.lt_succ_self _⟩⟩)⟩) (All.step (fun _ _=>rfl) (Nat.le_succ_of_le E.le) E1.all)⟩
theorem zhb (E:Env w0 W top fs) (hN:o.dst=N) (hw:Region.wanted o (yielded ops a.tmps)=true) (s x:Operand) (t e:TypeId) (z:Value) (bytes:Nat)
  (ho:o.op= .call {callee:= .builtin .append,args:= #[s,x],argTypes:= #[t,t]}) {α:Type} (d:Kd α) (hE:d.E=[])
  (ht:P.underlying t=some (.slice e)) (hinfo:(P.info? e).map (fun i=>(i.zero,i.size,i.bytes))=some (some z,d.sz,bytes)) (hz:z.cells.size=d.sz) (hs0:0<d.sz) (hb0:0<bytes)
  (i:Nat) {g:Nat} {v:Value} (hf:fs[i]?=some (Fct.made (Own.srow e d) w0.heap.size g (g+1) (fun _=>True) [] [v])) {ys:List α} {A:Option Addr} {m c:Nat} (hR:d.C w0 A m ys) (hKM:∀x cs,d.K W x cs→d.M W w0.heap.size (fun _=>False) x cs)
  (hs:a.eval s=v) (hx:a.eval x= .slice A m c) (hl:m*bytes≤140737488355328) (hgt:g+1≤top) (hoff:Off2 g (g+1) fs i)
  (h:∀v1 w1 b t1,(b=g∨top≤b)∧b+1≤t1∧top≤t1→Env w0 w1 t1 (fs.set i (Fct.made (Own.srow e d) w0.heap.size b (b+1) (fun _=>True) ys [v1]))→G (a.put N v1) w1):Ev1 P o ops Q a W G:=by
 intro K hK
 subst hN
 obtain ⟨v',hv,hS⟩:=E.made i hf
 injection hv with hv
 subst hv
 have hown:∀k,v.ownBlock=some k→True∧Iv g (g+1) k:=hS.choose_spec.1
 have hC:=Kd.C_below hR E.below
 refine Kd.R_append_rows_step d (Rr:=d.K W) (w0:=w0) w0.heap.size hw s x t e z bytes ho ht hinfo hz hs0 hb0 v [] ys A m c (fun _=>True) (fun _=>False) hs hx (Kd.R_mono (Kd.S_R hS) (fun _ _=>trivial)) hC hKM (fun _ h=>h.elim) (fun _ _=>trivial) E.below E.below.size (by rw [List.length_nil,Nat.zero_add];exact hl) ?_
 intro v1 w1 hR1 hB hg hat
 rw [List.nil_append] at hR1
 have hM:=Own.srow_of_R hE hR1
 have fin:∀b,(b=g∨top≤b)→b+1≤w1.heap.size→(∀k,some k=v1.ownBlock→k=b)→K (a.put o.dst v1) w1:=fun b h1 h2 h3=>by
  refine hK.out _ _ (h v1 w1 b w1.heap.size ⟨h1,h2,z5a E.le hg.size⟩ ⟨hB,z3a _,hB.size,All.off2 (fun k hk hk2=>hg.block k (z4a hk E.le) (fun e=> ?_)) (z5a E.le hg.size) (f':=Fct.made (Own.srow e d) w0.heap.size b (b+1) (fun _=>True) ys [v1]) h2 ?_ i E.all hoff⟩)
  ·have:=(hown k e.symm).2
   obtain ⟨q1,q2⟩:=this
   omega
  ·exact (Own.srow e d).M_mono (fun k hk=>⟨trivial,by rw [h3 k hk];exact ⟨z3a _,Nat.lt_succ_self _⟩⟩) hM
 rcases hat with hat|⟨b,hb,hle⟩
 ·refine fin g (.inl rfl) (z5a hgt (z5a E.le hg.size)) (fun k hk=> ?_)
  rw [hat] at hk
  have:=(hown k hk.symm).2
  obtain ⟨q1,q2⟩:=this
  omega
 ·refine fin b (.inr (z5a E.le hle)) (Kd.R_lt hR1 b hb) (fun k hk=> ?_)
  rw [hb] at hk
  injection hk
end
theorem Kpair {α β:Type} {a:Kd α} {b:Kd β} {w:World} {x:α} {y:β} {c0 c1:List Value} (ha:a.K w x c0) (hb:b.K w y c1):(Own.apair a b).K w (x,y) (c0++c1):=⟨c0,c1,rfl,ha,hb⟩
theorem range4 {w:World} {b o:Nat} {a0 a1 a2 a3:Value} (h0:w.cell? ⟨b,o+1,none⟩=some a0) (h1:w.cell? ⟨b,o+2,none⟩=some a1) (h2:w.cell? ⟨b,o+3,none⟩=some a2) (h3:w.cell? ⟨b,o+4,none⟩=some a3):w.rangeAt b (o+1) [a0,a1,a2,a3]:=by
 intro j v hj
 match j,hj with
 |0,hj=>injection hj with hj;subst hj;exact h0
 |1,hj=>injection hj with hj;subst hj;exact h1
 |2,hj=>injection hj with hj;subst hj;exact h2
 |3,hj=>injection hj with hj;subst hj;exact h3
theorem hull {α:Type} {d:Kd α} {W:World} {base lo:Nat} {p:Nat→Prop} {x:α} {cs:List Value} (h:d.M W base p x cs) (hp:∀k,p k→lo≤k):d.M W base (fun k=>lo≤k∧k<W.heap.size) x cs:=
 d.M_mono (fun k hk=>⟨hp k hk.1,hk.2.2.1⟩) (d.M_bound h)
theorem Env.hull_ {w0 W W':World} {top:Nat} {fs:List Fct} (E:Env w0 W top fs) {α:Type} {d:Kd α} {x:α} {cs:List Value} {lo:Nat} (M:d.M W' w0.heap.size (fun k=>lo≤k∧k<W'.heap.size) x cs) (hb:Below W.heap.size W W'):∃m,top≤m∧Env w0 W' m (Fct.made d w0.heap.size lo m (fun _=>True) x cs::fs):=
 ⟨W'.heap.size,z5a E.le hb.size,ze E.below hb,z3a _,z5a E.below.size hb.size,⟨z3a _,d.M_mono (fun k hk=>⟨trivial,hk⟩) M⟩,All.step (fun k h=>hb.block k (z4a h E.le)) (z5a E.le hb.size) E.all⟩
def Pick (fs:List Fct):List (Nat×Fct)→Prop
 |[]=>True
 |(i,f)::r=>fs[i]?=some f∧Pick fs r
theorem Env.pick {w0 W:World} {top:Nat} {fs:List Fct} (E:Env w0 W top fs):∀(r:List (Nat×Fct)),Pick fs r→Env w0 W top (r.map (·.2))
 |[],_=>⟨E.below,E.le,E.ge,trivial⟩
 |(i,f)::r,⟨h1,h2⟩=>⟨E.below,E.le,E.ge,All.get i E.all h1,(E.pick r h2).all⟩
theorem kDisk_comb {W:World} {base:Nat} {p q:Nat→Prop} {l0:List ByteArray} {l1:List S110} {a b:Value} (ha:(Own.srow 9 Kd.string).M W base p l0 [a]) (hb:(Own.srow 110 k110).M W base q l1 [b]) (hd:∀k,p k→¬q k):kDisk.M W base (fun k=>p k∨q k) (l0,l1) [a,b]:=comb ha hb hd
theorem kWork_of {W:World} {base:Nat} {p p3 p4 p5:Nat→Prop} {l0:List ByteArray} {l1:List S110} {l2:Int} {l3 l4 l5:List Int} {x0 x1 v3 v4 v5:Value} (h:kDisk.M W base p (l0,l1) [x0,x1]) (h3:(Own.srow 3 (Kd.int .i64)).M W base p3 l3 [v3]) (h4:(Own.srow 3 (Kd.int .i64)).M W base p4 l4 [v4]) (h5:(Own.srow 3 (Kd.int .i64)).M W base p5 l5 [v5]) (d0:∀k,p k→¬(p3 k∨p4 k∨p5 k)) (d1:∀k,p3 k→¬(p4 k∨p5 k)) (d2:∀k,p4 k→¬p5 k):kWork.M W base (fun k=>p k∨p3 k∨p4 k∨p5 k) (l0,l1,l2,l3,l4,l5) [x0,x1,.int .i64 l2,v3,v4,v5]:=by
 obtain ⟨c0,c1,okA,okB,e,ha,hb,hA,hB,hab⟩:=Own.apair_open h
 obtain ⟨v,rfl,hs⟩:=ha
 injection e with e1 e2
 subst e1
 subst e2
 have t3:=comb (zeb h3) (comb (zeb h4) (zeb h5) d2) d1
 have t2:(Own.apair (Kd.int .i64) (Own.apair (Own.arow 3 (Kd.int .i64)) (Own.apair (Own.arow 3 (Kd.int .i64)) (Own.arow 3 (Kd.int .i64))))).M W base (fun k=>p3 k∨p4 k∨p5 k) (l2,l3,l4,l5) [.int .i64 l2,v3,v4,v5]:=Own.apair_mk (okA:=fun _=>False) (Mint (n:=l2)) t3 (fun _ h=>h.elim) (fun _ h=>h) (fun _ h=>h.elim)
 have t1:=Own.apair_mk (ok:=fun k=>p k∨p3 k∨p4 k∨p5 k) (okA:=okB) (okB:=fun k=>p3 k∨p4 k∨p5 k) hb t2 (fun k h=>Or.inl (hB k h)) (fun k h=>Or.inr h) (fun k h1 h3=>d0 k (hB k h1) h3)
 exact Own.apair_mk (ok:=fun k=>p k∨p3 k∨p4 k∨p5 k) (okA:=okA) (okB:=fun k=>okB k∨p3 k∨p4 k∨p5 k) (show (Own.srow 9 Kd.string).M W base okA l0 _ from ⟨_,rfl,hs⟩) (Own.apair_mk (ok:=fun k=>okB k∨p3 k∨p4 k∨p5 k) (okA:=okB) (okB:=fun k=>p3 k∨p4 k∨p5 k) hb t2 (fun k h=>Or.inl h) (fun k h=>Or.inr h) (fun k h1 h3=>d0 k (hB k h1) h3)) (fun k h=>Or.inl (hA k h)) (fun k h=>h.elim (fun h=>Or.inl (hB k h)) Or.inr) (fun k h1 h3=>h3.elim (hab k h1) (d0 k (hA k h1)))
theorem kWork_of2 {W:World} {base:Nat} {p p3 p4 p5:Nat→Prop} {l0:List ByteArray} {l1:List S110} {l2:Int} {l3 l4 l5:List Int} {c:List Value} {v3 v4 v5:Value} (h:kDisk.M W base p (l0,l1) c) (h3:(Own.arow 3 (Kd.int .i64)).M W base p3 l3 [v3]) (h4:(Own.arow 3 (Kd.int .i64)).M W base p4 l4 [v4]) (h5:(Own.arow 3 (Kd.int .i64)).M W base p5 l5 [v5]) (d0:∀k,p k→¬(p3 k∨p4 k∨p5 k)) (d1:∀k,p3 k→¬(p4 k∨p5 k)) (d2:∀k,p4 k→¬p5 k):kWork.M W base (fun k=>p k∨p3 k∨p4 k∨p5 k) (l0,l1,l2,l3,l4,l5) (c++([.int .i64 l2]++([v3]++([v4]++[v5])))):=by
 obtain ⟨c0,c1,okA,okB,rfl,ha,hb,hA,hB,hab⟩:=Own.apair_open h
 have t3:=comb h3 (comb h4 h5 d2) d1
 have t2:(Own.apair (Kd.int .i64) (Own.apair (Own.arow 3 (Kd.int .i64)) (Own.apair (Own.arow 3 (Kd.int .i64)) (Own.arow 3 (Kd.int .i64))))).M W base (fun k=>p3 k∨p4 k∨p5 k) (l2,l3,l4,l5) ([.int .i64 l2]++([v3]++([v4]++[v5]))):=Own.apair_mk (okA:=fun _=>False) (Mint (n:=l2)) t3 (fun _ h=>h.elim) (fun _ h=>h) (fun _ h=>h.elim)
 rw [List.append_assoc]
 exact Own.apair_mk (ok:=fun k=>p k∨p3 k∨p4 k∨p5 k) (okA:=okA) (okB:=fun k=>okB k∨p3 k∨p4 k∨p5 k) ha (Own.apair_mk (ok:=fun k=>okB k∨p3 k∨p4 k∨p5 k) (okA:=okB) (okB:=fun k=>p3 k∨p4 k∨p5 k) hb t2 (fun k h=>Or.inl h) (fun k h=>Or.inr h) (fun k h1 h3=>d0 k (hB k h1) h3)) (fun k h=>Or.inl (hA k h)) (fun k h=>h.elim (fun h=>Or.inl (hB k h)) Or.inr) (fun k h1 h3=>h3.elim (hab k h1) (d0 k (hA k h1)))
theorem zjb {P:Program} {ops:Array Oper} {Q:Exit→Act→World→Prop} {G:Act→World→Prop} {o:Oper} {a:Act} {W:World} {N:Nat} (_h:o.dst=some N) (h:Ev1 P o ops Q a W G):Ev1 P o ops Q a W G:=h
theorem zsa {w:World} {l0:List ByteArray} {l1:List S110} {a b:Value} (h0:(Own.srow 9 Kd.string).K w l0 [a]) (h1:(Own.srow 110 k110).K w l1 [b]):kDisk.K w (l0,l1) [a,b]:=Kpair h0 h1
def l03Copy_n_T1:Bool×List (List Nat×List Nat):=(true,[([],[]),([],[]),([1],[1]),([0,2],[0,2]),([],[]),([],[]),([5],[5]),([4,6,3],[4,6]),([3,7],[3,7]),([8,7,0,1,2,3,4,5,6,7,8],[8])])
def l03Copy_n_B1:List Nat:=[0,0,2,7,0,0,32,127,255,511]
theorem l03Copy_n_ok1_0:regT (zFa Tryz.f36 1) l03Copy_n_T1 l03Copy_n_B1 [9] (.p 1 (.t 2 (.p 5 (.t 6 (.two 0 4 (.two 3 4 (.e 4 (.e 7 (.p 8 (.l 9 .d)))) (.e 3 (.e 7 (.p 8 (.l 9 .d))))) (.e 0 (.e 3 (.e 7 (.p 8 (.l 9 .d))))))))))=true:=zq13
theorem zWb (l0:List ByteArray) (l1:List S110) {cs:List Value} (w:World) (h:kDisk.K w (l0,l1) cs) (hl:l0.length≤2000000∧l1.length≤2000000):
  Calls Tryz.prog 36 #[.agg cs.toArray] w fun e w'=>∃ds:List Value,e= .returned (.agg ds.toArray)∧kDisk.M w' w.heap.size (Fr w w') (l0,l1) ds∧Below w.heap.size w w':=by
 obtain ⟨A0,c0,A1,c1,rfl,m0,r0,m1,r1⟩:=zza h
 have R0:=zz r0;have R1:=zz r1;have L0:=zz hl.1;have L1:=zz hl.2;clear h r0 r1 m0 m1 hl
 have O:=zz (z3a w.heap.size)
 have E:=zz (Env.start w)
 go_enter Tryz.func36,Tryz.ntmps36
 go_upto_region 1 with (fail)
 replace O:=zz (And.intro E.1.le O.1)
 replace E:=zz (E.1.alloc [.slice A0 l0.length c0,.slice A1 l1.length c1] 37 (g:=w.heap.size) rfl)
 replace E:=zz (E.1.alloc [.slice none 0 0,.slice none 0 0] 37 (g:=(w.heap.size+1)) zq38)
 replace E:=zz E.1.nil_
 replace E:=zz E.1.nil_
 replace E:=zz E.1.drew
 refine zfa l03Copy_n_ok1_0 (S:=fun w'=>w'.heap[w.heap.size]?=some (.cells ([.slice A0 l0.length c0,.slice A1 l1.length c1]:List Value).toArray 37 (0,0))∧True) zq13 (fun _ _ _ _ h=>h) ⟨(E.1.box 3 rfl),trivial⟩ (fun hHeld=> ?_)
 generalize hq:World.drew _=w1_ at hHeld ⊢;replace E:=E.1.to hq;clear hq
 (refine zM (v:= ?_) (a':= ?_) rfl rfl (Or.inl ⟨zq22,zq12⟩) zq2 ?_)
 refine zL (a':= ?_) rfl rfl zq22 25 _ rfl w.heap.size 0 [] (.slice A0 l0.length c0) [.slice A1 l1.length c1] _ rfl (fun w' hs=>hs.1) zq6 (rfl) Tryz.underlying25 rfl zq2 ?_
 (refine zM (v:= ?_) (a':= ?_) rfl rfl (Or.inl ⟨zq22,zq12⟩) zq2 ?_)
 refine zL (a':= ?_) rfl rfl zq22 35 _ rfl w.heap.size 1 [.slice A0 l0.length c0] (.slice A1 l1.length c1) [] _ rfl (fun w' hs=>hs.1) zq6 (rfl) Tryz.underlying35 rfl zq2 ?_
 repeat' (first
  |(refine tre_four rfl rfl rfl rfl ?_ ?_ ?_ ?_)
  |(refine tre_three rfl rfl rfl ?_ ?_ ?_)
  |(refine zob rfl rfl ?_ ?_)
  |(refine zS rfl ?_)
  |((with_reducible refine zjb (N:=3) rfl ?_);refine ev1_lit0 (N:=some 3) E.1 0 rfl zq22 25 9 rfl Tryz.underlying25 1 zq13 Kd.string ?_;intro g0 W hg hE;have q:=And.intro hg O.1;clear O E hg;have O:=zz q;have E:=zz hE;clear q hE;refine ⟨⟨E.1.box 3 rfl,trivial⟩,fun hHeld=> ?_⟩;refine zw (a':= ?_) zq2 ?_)
  |((with_reducible refine zjb (N:=6) rfl ?_);refine zhb (N:=some 6) E.1 rfl zq22 _ _ 25 9 (.string .empty) 16 rfl Kd.string rfl Tryz.underlying25 info9 rfl zq31 zq31 0 (g:=g0) rfl R0.1 (fun _ _ h=>h) rfl rfl (zq51 L0.1) zq135 zq73 ?_;intro u W b0 t0 hg hE;have q:=And.intro hg O.1;clear O E hg;have O:=zz q;have E:=zz hE;clear q hE;obtain ⟨B0,e0,hv,-⟩:=E.1.mk_ 0 rfl;injection hv with hv;subst hv;refine ⟨⟨E.1.box 3 rfl,trivial⟩,fun hHeld=> ?_⟩;refine zw (a':= ?_) zq2 ?_)
  |((with_reducible refine zjb (N:=7) rfl ?_);refine ev1_lit0 (N:=some 7) E.1 1 rfl zq22 35 110 rfl Tryz.underlying35 2 zq13 k110 ?_;intro g1 W hg hE;have q:=And.intro hg O.1;clear O E hg;have O:=zz q;have E:=zz hE;clear q hE;refine ⟨⟨E.1.box 3 rfl,trivial⟩,fun hHeld=> ?_⟩;refine zw (a':= ?_) zq2 ?_)
  |((with_reducible refine zjb (N:=10) rfl ?_);refine zhb (N:=some 10) E.1 rfl zq22 _ _ 35 110 (.agg #[.int .i64 0,.string .empty]) 24 rfl k110 rfl Tryz.underlying35 info110 rfl zq31 zq31 1 (g:=g1) rfl R1.1 (fun _ _ h=>h) rfl rfl (zq51 L1.1) zq135 zq73 ?_;intro u W b1 t1 hg hE;have q:=And.intro hg O.1;clear O E hg;have O:=zz q;have E:=zz hE;clear q hE;obtain ⟨B1,e1,hv,-⟩:=E.1.mk_ 1 rfl;injection hv with hv;subst hv;refine ⟨⟨E.1.box 3 rfl,trivial⟩,fun hHeld=> ?_⟩;refine zw (a':= ?_) zq2 ?_))
 all_goals
  (refine zM (v:= ?_) (a':= ?_) rfl rfl (Or.inl ⟨zq22,zq12⟩) zq2 ?_)
  refine tre_l rfl (zA rfl zq22 37 _ _ rfl (w.heap.size+1) 0 [.slice B0 l0.length e0,.slice B1 l1.length e1] [] Z37 [] rfl rfl (E.1.box 2 rfl) rfl rfl rfl zq13 (zta rfl (zta rfl onesN)) (fun W hp hn=> ?_))
  replace E:=E.1.put2 2 hp hn zq127
  refine zX ?_
  clear hHeld hp hn
  go_wp2_with fail
  refine bodyPost_ret (zya rfl _ _ (w.heap.size+1) 37 _ _ _ rfl (show _=some (Obj.cells ([.slice B0 l0.length e0,.slice B1 l1.length e1]:List Value).toArray 37 (0,0)) from E.1.box 2 rfl) Tryz.underlying37 rfl zq13) rfl ?_
  exact ⟨_,rfl,zGb (d:=kDisk) (kDisk_comb (E.1.made 0 rfl) (E.1.made 1 rfl) (fun k h1 h2=>by have o:=O.1;(try simp only [Iv,true_and,or_false,false_or] at h1 h2)<;>omega)) (z3a _),E.1.below⟩
def l08Copy_n_T1:Bool×List (List Nat×List Nat):=(true,[([],[]),([0],[0]),([1],[1]),([],[]),([3],[3]),([],[]),([],[]),([6],[6]),([5,7,2],[5,7]),([],[]),([],[]),([10],[10]),([9,11,8],[9,11]),([],[]),([],[]),([14],[14]),([13,15,12],[13,15]),([2,4,8,12,16],[2,4,8,12,16]),([17,16,0,1,2,3,4,5,6,7,8,9,10,11,12,13,14,15,16,17],[17])])
def l08Copy_n_B1:List Nat:=[0,1,3,0,8,0,0,64,231,0,0,1024,4071,0,0,16384,65511,131071,262143]
theorem l08Copy_n_ok1_0:regT (zFa Tryz.f131 1) l08Copy_n_T1 l08Copy_n_B1 [18] (.p 0 (.t 1 (.p 3 (.t 4 (.p 6 (.t 7 (.p 10 (.t 11 (.p 14 (.t 15 (.four 2 5 9 13 (.three 5 9 13 (.three 8 9 13 (.two 9 13 (.two 12 13 (.e 13 (.e 16 (.p 17 (.l 18 .d)))) (.e 12 (.e 16 (.p 17 (.l 18 .d))))) (.e 9 (.e 12 (.e 16 (.p 17 (.l 18 .d)))))) (.two 8 13 (.two 12 13 (.e 13 (.e 16 (.p 17 (.l 18 .d)))) (.e 12 (.e 16 (.p 17 (.l 18 .d))))) (.e 8 (.e 12 (.e 16 (.p 17 (.l 18 .d)))))) (.two 8 9 (.e 9 (.e 12 (.e 16 (.p 17 (.l 18 .d))))) (.e 8 (.e 12 (.e 16 (.p 17 (.l 18 .d))))))) (.two 5 13 (.two 8 13 (.two 12 13 (.e 13 (.e 16 (.p 17 (.l 18 .d)))) (.e 12 (.e 16 (.p 17 (.l 18 .d))))) (.e 8 (.e 12 (.e 16 (.p 17 (.l 18 .d)))))) (.e 5 (.e 8 (.e 12 (.e 16 (.p 17 (.l 18 .d))))))) (.two 5 9 (.two 8 9 (.e 9 (.e 12 (.e 16 (.p 17 (.l 18 .d))))) (.e 8 (.e 12 (.e 16 (.p 17 (.l 18 .d)))))) (.e 5 (.e 8 (.e 12 (.e 16 (.p 17 (.l 18 .d)))))))) (.three 2 9 13 (.three 8 9 13 (.two 9 13 (.two 12 13 (.e 13 (.e 16 (.p 17 (.l 18 .d)))) (.e 12 (.e 16 (.p 17 (.l 18 .d))))) (.e 9 (.e 12 (.e 16 (.p 17 (.l 18 .d)))))) (.two 8 13 (.two 12 13 (.e 13 (.e 16 (.p 17 (.l 18 .d)))) (.e 12 (.e 16 (.p 17 (.l 18 .d))))) (.e 8 (.e 12 (.e 16 (.p 17 (.l 18 .d)))))) (.two 8 9 (.e 9 (.e 12 (.e 16 (.p 17 (.l 18 .d))))) (.e 8 (.e 12 (.e 16 (.p 17 (.l 18 .d))))))) (.two 2 13 (.two 8 13 (.two 12 13 (.e 13 (.e 16 (.p 17 (.l 18 .d)))) (.e 12 (.e 16 (.p 17 (.l 18 .d))))) (.e 8 (.e 12 (.e 16 (.p 17 (.l 18 .d)))))) (.e 2 (.e 8 (.e 12 (.e 16 (.p 17 (.l 18 .d))))))) (.two 2 9 (.two 8 9 (.e 9 (.e 12 (.e 16 (.p 17 (.l 18 .d))))) (.e 8 (.e 12 (.e 16 (.p 17 (.l 18 .d)))))) (.e 2 (.e 8 (.e 12 (.e 16 (.p 17 (.l 18 .d)))))))) (.three 2 5 13 (.two 5 13 (.two 8 13 (.two 12 13 (.e 13 (.e 16 (.p 17 (.l 18 .d)))) (.e 12 (.e 16 (.p 17 (.l 18 .d))))) (.e 8 (.e 12 (.e 16 (.p 17 (.l 18 .d)))))) (.e 5 (.e 8 (.e 12 (.e 16 (.p 17 (.l 18 .d))))))) (.two 2 13 (.two 8 13 (.two 12 13 (.e 13 (.e 16 (.p 17 (.l 18 .d)))) (.e 12 (.e 16 (.p 17 (.l 18 .d))))) (.e 8 (.e 12 (.e 16 (.p 17 (.l 18 .d)))))) (.e 2 (.e 8 (.e 12 (.e 16 (.p 17 (.l 18 .d))))))) (.two 2 5 (.e 5 (.e 8 (.e 12 (.e 16 (.p 17 (.l 18 .d)))))) (.e 2 (.e 8 (.e 12 (.e 16 (.p 17 (.l 18 .d)))))))) (.three 2 5 9 (.two 5 9 (.two 8 9 (.e 9 (.e 12 (.e 16 (.p 17 (.l 18 .d))))) (.e 8 (.e 12 (.e 16 (.p 17 (.l 18 .d)))))) (.e 5 (.e 8 (.e 12 (.e 16 (.p 17 (.l 18 .d))))))) (.two 2 9 (.two 8 9 (.e 9 (.e 12 (.e 16 (.p 17 (.l 18 .d))))) (.e 8 (.e 12 (.e 16 (.p 17 (.l 18 .d)))))) (.e 2 (.e 8 (.e 12 (.e 16 (.p 17 (.l 18 .d))))))) (.two 2 5 (.e 5 (.e 8 (.e 12 (.e 16 (.p 17 (.l 18 .d)))))) (.e 2 (.e 8 (.e 12 (.e 16 (.p 17 (.l 18 .d)))))))))))))))))))=true:=zq13
theorem l08Copy_n (l0:List ByteArray) (l1:List S110) (l2:Int) (l3 l4 l5:List Int) {cs:List Value} (w:World) (h:kWork.K w (l0,l1,l2,l3,l4,l5) cs) (hl:(l0.length≤2000000∧l1.length≤2000000)∧l3.length≤2000000∧l4.length≤2000000∧l5.length≤2000000):
  Calls Tryz.prog 131 #[.agg cs.toArray] w fun e w'=>∃ds:List Value,e= .returned (.agg ds.toArray)∧kWork.M w' w.heap.size (Fr w w') (l0,l1,l2,l3,l4,l5) ds∧Below w.heap.size w w':=by
 obtain ⟨A0,c0,A1,c1,A3,c3,A4,c4,A5,c5,rfl,m0,r0,m1,r1,m3,r3,m4,r4,m5,r5⟩:=zac h
 have KD:=zz (zsa (w:=w) ⟨_,_,rfl,m0,r0⟩ ⟨_,_,rfl,m1,r1⟩)
 have R3:=zz r3;have R4:=zz r4;have R5:=zz r5;have LD:=zz hl.1;have L3:=zz hl.2.1;have L4:=zz hl.2.2.1;have L5:=zz hl.2.2.2;clear h r0 r1 m0 m1 r3 m3 r4 m4 r5 m5 hl
 have O:=zz (z3a w.heap.size)
 have E:=zz (Env.start w)
 go_enter Tryz.func131,Tryz.ntmps131
 go_upto_region 1 with (fail)
 replace O:=zz (And.intro E.1.le O.1)
 replace E:=zz (E.1.alloc [.slice A0 l0.length c0,.slice A1 l1.length c1,.int .i64 l2,.slice A3 l3.length c3,.slice A4 l4.length c4,.slice A5 l5.length c5] 44 (g:=w.heap.size) rfl)
 replace E:=zz (E.1.alloc Z44 44 (g:=(w.heap.size+1)) zq38)
 replace E:=zz E.1.nil_
 replace E:=zz E.1.nil_
 replace E:=zz E.1.nil_
 replace E:=zz E.1.nil_
 replace E:=zz E.1.drew
 refine zfa l08Copy_n_ok1_0 (S:=fun w'=>w'.heap[w.heap.size]?=some (.cells ([.slice A0 l0.length c0,.slice A1 l1.length c1,.int .i64 l2,.slice A3 l3.length c3,.slice A4 l4.length c4,.slice A5 l5.length c5]:List Value).toArray 44 (0,0))∧True) zq13 (fun _ _ _ _ h=>h) ⟨(E.1.box 5 rfl),trivial⟩ (fun hHeld=> ?_)
 generalize hq:World.drew _=w1_ at hHeld ⊢;replace E:=E.1.to hq;clear hq
 (refine zM (v:= ?_) (a':= ?_) rfl rfl (Or.inl ⟨zq22,zq12⟩) zq2 ?_)
 refine zB (a':= ?_) rfl rfl zq22 37 _ rfl w.heap.size 0 [] [.slice A0 l0.length c0,.slice A1 l1.length c1] [.int .i64 l2,.slice A3 l3.length c3,.slice A4 l4.length c4,.slice A5 l5.length c5] _ rfl (fun w' hs=>hs.1) zq6 (rfl) Tryz.underlying37 rfl zq13 zq2 ?_
 (refine zM (v:= ?_) (a':= ?_) rfl rfl (Or.inl ⟨zq22,zq12⟩) zq2 ?_)
 refine zL (a':= ?_) rfl rfl zq22 3 _ rfl w.heap.size 2 [.slice A0 l0.length c0,.slice A1 l1.length c1] (.int .i64 l2) [.slice A3 l3.length c3,.slice A4 l4.length c4,.slice A5 l5.length c5] _ rfl (fun w' hs=>hs.1) zq6 (rfl) Tryz.underlying3 rfl zq2 ?_
 (refine zM (v:= ?_) (a':= ?_) rfl rfl (Or.inl ⟨zq22,zq12⟩) zq2 ?_)
 refine zL (a':= ?_) rfl rfl zq22 29 _ rfl w.heap.size 3 [.slice A0 l0.length c0,.slice A1 l1.length c1,.int .i64 l2] (.slice A3 l3.length c3) [.slice A4 l4.length c4,.slice A5 l5.length c5] _ rfl (fun w' hs=>hs.1) zq6 (rfl) Tryz.underlying29 rfl zq2 ?_
 (refine zM (v:= ?_) (a':= ?_) rfl rfl (Or.inl ⟨zq22,zq12⟩) zq2 ?_)
 refine zL (a':= ?_) rfl rfl zq22 29 _ rfl w.heap.size 4 [.slice A0 l0.length c0,.slice A1 l1.length c1,.int .i64 l2,.slice A3 l3.length c3] (.slice A4 l4.length c4) [.slice A5 l5.length c5] _ rfl (fun w' hs=>hs.1) zq6 (rfl) Tryz.underlying29 rfl zq2 ?_
 (refine zM (v:= ?_) (a':= ?_) rfl rfl (Or.inl ⟨zq22,zq12⟩) zq2 ?_)
 refine zL (a':= ?_) rfl rfl zq22 29 _ rfl w.heap.size 5 [.slice A0 l0.length c0,.slice A1 l1.length c1,.int .i64 l2,.slice A3 l3.length c3,.slice A4 l4.length c4] (.slice A5 l5.length c5) [] _ rfl (fun w' hs=>hs.1) zq6 (rfl) Tryz.underlying29 rfl zq2 ?_
 repeat' (first
  |(refine tre_four rfl rfl rfl rfl ?_ ?_ ?_ ?_)
  |(refine tre_three rfl rfl rfl ?_ ?_ ?_)
  |(refine zob rfl rfl ?_ ?_)
  |(refine zS rfl ?_)
  |((with_reducible refine zjb (N:=8) rfl ?_);refine ev1_lit0 (N:=some 8) E.1 0 rfl zq22 29 3 rfl Tryz.underlying29 1 zq13 (Kd.int .i64) ?_;intro g0 W hg hE;have q:=And.intro hg O.1;clear O E hg;have O:=zz q;have E:=zz hE;clear q hE;refine ⟨⟨E.1.box 5 rfl,trivial⟩,fun hHeld=> ?_⟩;refine zw (a':= ?_) zq2 ?_)
  |((with_reducible refine zjb (N:=11) rfl ?_);refine zhb (N:=some 11) E.1 rfl zq22 _ _ 29 3 (.int .i64 0) 8 rfl (Kd.int .i64) rfl Tryz.underlying29 info3 rfl zq31 zq31 0 (g:=g0) rfl R3.1 (fun _ _ h=>h) rfl rfl (zq51 L3.1) zq135 zq73 ?_;intro u W b0 t0 hg hE;have q:=And.intro hg O.1;clear O E hg;have O:=zz q;have E:=zz hE;clear q hE;obtain ⟨B0,e0,hv,-⟩:=E.1.mk_ 0 rfl;injection hv with hv;subst hv;refine ⟨⟨E.1.box 5 rfl,trivial⟩,fun hHeld=> ?_⟩;refine zw (a':= ?_) zq2 ?_)
  |((with_reducible refine zjb (N:=12) rfl ?_);refine ev1_lit0 (N:=some 12) E.1 1 rfl zq22 29 3 rfl Tryz.underlying29 1 zq13 (Kd.int .i64) ?_;intro g1 W hg hE;have q:=And.intro hg O.1;clear O E hg;have O:=zz q;have E:=zz hE;clear q hE;refine ⟨⟨E.1.box 5 rfl,trivial⟩,fun hHeld=> ?_⟩;refine zw (a':= ?_) zq2 ?_)
  |((with_reducible refine zjb (N:=15) rfl ?_);refine zhb (N:=some 15) E.1 rfl zq22 _ _ 29 3 (.int .i64 0) 8 rfl (Kd.int .i64) rfl Tryz.underlying29 info3 rfl zq31 zq31 1 (g:=g1) rfl R4.1 (fun _ _ h=>h) rfl rfl (zq51 L4.1) zq135 zq73 ?_;intro u W b1 t1 hg hE;have q:=And.intro hg O.1;clear O E hg;have O:=zz q;have E:=zz hE;clear q hE;obtain ⟨B1,e1,hv,-⟩:=E.1.mk_ 1 rfl;injection hv with hv;subst hv;refine ⟨⟨E.1.box 5 rfl,trivial⟩,fun hHeld=> ?_⟩;refine zw (a':= ?_) zq2 ?_)
  |((with_reducible refine zjb (N:=16) rfl ?_);refine ev1_lit0 (N:=some 16) E.1 2 rfl zq22 29 3 rfl Tryz.underlying29 1 zq13 (Kd.int .i64) ?_;intro g2 W hg hE;have q:=And.intro hg O.1;clear O E hg;have O:=zz q;have E:=zz hE;clear q hE;refine ⟨⟨E.1.box 5 rfl,trivial⟩,fun hHeld=> ?_⟩;refine zw (a':= ?_) zq2 ?_)
  |((with_reducible refine zjb (N:=19) rfl ?_);refine zhb (N:=some 19) E.1 rfl zq22 _ _ 29 3 (.int .i64 0) 8 rfl (Kd.int .i64) rfl Tryz.underlying29 info3 rfl zq31 zq31 2 (g:=g2) rfl R5.1 (fun _ _ h=>h) rfl rfl (zq51 L5.1) zq135 zq73 ?_;intro u W b2 t2 hg hE;have q:=And.intro hg O.1;clear O E hg;have O:=zz q;have E:=zz hE;clear q hE;obtain ⟨B2,e2,hv,-⟩:=E.1.mk_ 2 rfl;injection hv with hv;subst hv;refine ⟨⟨E.1.box 5 rfl,trivial⟩,fun hHeld=> ?_⟩;refine zw (a':= ?_) zq2 ?_)
  |((with_reducible refine zjb (N:=5) rfl ?_);refine zC (N:=some 5) rfl Tryz.func36 zq13 rfl #[.agg #[.slice A0 l0.length c0,.slice A1 l1.length c1]] zq22 rfl zq14 ?_;with_reducible refine (zWb l0 l1 _ (E.1.K KD.1) LD.1).mono ?_;rintro e W ⟨d,rfl,M,hb⟩;obtain ⟨nd,md,hg,hE⟩:=E.1.madeAt 3 M hb;have q:=And.intro hg O.1;clear O E hg M hb;have O:=zz q;have E:=zz hE;clear q hE;obtain ⟨D0,f0,D1,f1,rfl,-⟩:=zza (E.1.mk_ 3 rfl);refine ⟨_,rfl,⟨E.1.box 5 rfl,trivial⟩,fun hHeld=> ?_⟩;refine zw (a':= ?_) zq2 ?_))
 all_goals
  (refine zM (v:= ?_) (a':= ?_) rfl rfl (Or.inl ⟨zq22,zq12⟩) zq2 ?_)
  refine tre_l rfl (zA rfl zq22 44 _ _ rfl (w.heap.size+1) 0 [.slice D0 l0.length f0,.slice D1 l1.length f1,.int .i64 l2,.slice B0 l3.length e0,.slice B1 l4.length e1,.slice B2 l5.length e2] [] Z44 [] rfl rfl (E.1.box 4 rfl) rfl rfl rfl zq13 (zta rfl (zta rfl (zta rfl (zta rfl (zta rfl (zta rfl onesN)))))) (fun W hp hn=> ?_))
  replace E:=E.1.put2 4 hp hn zq127
  refine zX ?_
  clear hHeld hp hn
  go_wp2_with fail
  refine bodyPost_ret (zya rfl _ _ (w.heap.size+1) 44 _ _ _ rfl (show _=some (Obj.cells ([.slice D0 l0.length f0,.slice D1 l1.length f1,.int .i64 l2,.slice B0 l3.length e0,.slice B1 l4.length e1,.slice B2 l5.length e2]:List Value).toArray 44 (0,0)) from E.1.box 4 rfl) Tryz.underlying44 rfl zq13) rfl ?_
  exact ⟨_,rfl,zGb (d:=kWork) (kWork_of (E.1.made 3 rfl) (E.1.made 0 rfl) (E.1.made 1 rfl) (E.1.made 2 rfl) (fun k h1 h2=>by have o:=O.1;(try simp only [Iv,true_and,or_false,false_or] at h1 h2)<;>omega) (fun k h1 h2=>by have o:=O.1;(try simp only [Iv,true_and,or_false,false_or] at h1 h2)<;>omega) (fun k h1 h2=>by have o:=O.1;(try simp only [Iv,true_and,or_false,false_or] at h1 h2)<;>omega)) (z3a _),E.1.below⟩
end Go.Proofs.YtonhdiemjgdcnaaGreat.PFnExactGivePage
namespace Go.Proofs.YtonhdiemjgdcnaaGreat.PFnExactGivePage
open Go.RowKit Go.Proofs.YtonhdiemjgdcnaaGreatW.PrintWords Go.Proofs.YtonhdiemjgdcnaaGreatW.PrintLast Go.Proofs.YtonhdiemjgdcnaaGreatW.PrintMore
attribute [local go_sem] zma zla zwa zxa zba zca zoa zna
def impl_cloneMeta.l0:Nat→List (S112)→List (S112)→Int→Int→Int→Int→Int→List (S112)→Option (Int×Int×Int×(List (S112)))
 |0,_,_,_,_,_,_,_,_=>none
 |k+1,x3,x7,x8,x9,x419000,x419001,x419002,x419003=>if x9<x8 then (if 0≤x9 then (if x9<(x7.length:Int) then ((slices_Clone_int_int.f ((zF x7 x9).f1)).bind fun t422=>(if x3.length<4398046511104 then (impl_cloneMeta.l0 k (x3++[(⟨(zF x7 x9).f0,t422⟩:S112)]) x7 x8 (wrap64 (x9+1)) x419000 x419001 x419002 x419003) else (none))) else (none)) else (none)) else (some (x419000,x419001,x419002,x3))
def impl_cloneMeta.f (k:Nat) (a0_0:Int) (a0_1:Int) (a0_2:Int) (l0_3:List (S112)):Option (Int×Int×Int×(List (S112))):=impl_cloneMeta.l0 k ([]:List (S112)) l0_3 (l0_3.length:Int) 0 a0_0 a0_1 a0_2 l0_3
def impl_cloneMeta.T5:Bool×List (List Nat×List Nat):=(true,[([],[]),([],[]),([1],[1]),([],[]),([3],[3]),([4],[4]),([2,5],[2,5]),([6],[6]),([0,7,5],[0,7]),([8,8,0,1,2,3,4,5,6,7,8],[0,8])])
def impl_cloneMeta.B5:List Nat:=[0,0,2,0,8,24,62,126,255,511]
theorem impl_cloneMeta.tab5:rtab .any (zFa Tryz.f44 5)=impl_cloneMeta.T5:=zq13
theorem impl_cloneMeta.bits5:zQa impl_cloneMeta.T5.2 impl_cloneMeta.B5=true:=zq13
theorem impl_cloneMeta.calls (k:Nat) (a0:Int) (a1:Int) (a2:Int) (A0:Option Addr) (c0:Nat) (l2:List (S112)) (r1:Int) (r2:Int) (r3:Int) (r4:List (S112)) (w:World) (r0:Kd.C k112 w A0 l2.length l2) (h0:l2.length≤c0) (h:impl_cloneMeta.f k a0 a1 a2 l2=some (r1,r2,r3,r4)):
  Calls Tryz.prog 44 #[.agg #[.int .i64 a0,.int .i64 a1,.int .i64 a2,.slice A0 l2.length c0]] w fun e w'=>∃v0:Value,e= .returned (.agg #[.int .i64 r1,.int .i64 r2,.int .i64 r3,v0])∧Kd.S k112 112 w' w.heap.size (fun _=>True) v0 r4∧Below w.heap.size w w':=by
 have hu53:=Tryz.underlying40
 have hu122:=Tryz.underlying112
 have R0:=zz r0
 clear r0 h0
 have HB:=zz (z1a w.heap.size w)
 have H:(impl_cloneMeta.l0 k ([]:List (S112)) l2 (l2.length:Int) 0 a0 a1 a2 l2)=some (r1,r2,r3,r4):=h
 clear h
 have H':=zz H
 clear H
 go_enter Tryz.func44,Tryz.ntmps44
 go_wp2_with (first|((with_reducible refine zd (N:=1) rfl ?_);refine zx rfl (N:=1) rfl (cs:= #[.int .i64 a0,.int .i64 a1,.int .i64 a2,.slice A0 l2.length c0]) (t:=40) zq27 ?_;intro g0 hg w2 hbox hb;have B0:=zz hbox;have G0:=zz (zq15:w.heap.size≤g0);replace HB:=zz (ze zq0 hb);clear hb hbox hg)|((with_reducible refine zd (N:=2) rfl ?_);refine zx rfl (N:=2) rfl (cs:= #[.int .i64 0,.int .i64 0,.int .i64 0,.slice none 0 0]) (t:=40) zq27 ?_;intro g1 hg w3 hbox hb;have B2:=zz hbox;have G1:=zz (zq25 G0.1:w.heap.size≤g1);have N0:=zz (zq79 B0.1:g0≠g1);have N1:=zz (zq80 B0.1:g1≠g0);replace B0:=zz (zg (g:=g0) (o:= .cells #[.int .i64 a0,.int .i64 a1,.int .i64 a2,.slice A0 l2.length c0] 40 (0,0)) (zq1 B0.1) hb);replace HB:=zz (ze (zq4 G0.1) hb);clear hb hbox hg;have hnb4:=N0.1;have hnc4:=N1.1;obtain ⟨_,_,_,_,_,_,_,_⟩:=zcell4 B0.1))
 go_loopg [3,9] k (fun kq v3 v9 w'=>∃(x0:List (S112)) (x1:Int),v9= .int .i64 x1∧Z0 (impl_cloneMeta.l0 kq x0 l2 (l2.length:Int) x1 a0 a1 a2 l2=some (r1,r2,r3,r4))∧Z0 (kq≤k)∧Z0 (Kd.S k112 112 w' w.heap.size (fun _=>True) v3 x0)∧Z0 (w'.heap[g0]?=some (.cells #[.int .i64 a0,.int .i64 a1,.int .i64 a2,(.slice A0 l2.length c0)] 40 (0,0)))∧Z0 (w'.heap[g1]?=some (.cells #[.int .i64 0,.int .i64 0,.int .i64 0,(.slice none 0 0)] 40 (0,0)))∧Z0 (Below w.heap.size w w'))
 case atStart=>exact ⟨(([]:List (S112))),(0),zq18,H',⟨z3a _⟩,⟨by first|exact Kd.S_nil _ _ _ _ _|exact Kd.N_nil _ _ _ _ _|exact Kd.V_nil _ _ _ _ _|exact Kd.Q_nil _ _ _ _ _|exact Kd.R_nil _ _ _ _ _⟩,⟨by (with_reducible repeat (first|refine zk ?_ _|refine zl ?_|refine zh ?_ _));exact B0.1⟩,⟨by (with_reducible repeat (first|refine zk ?_ _|refine zl ?_|refine zh ?_ _));exact B2.1⟩,⟨zq5 G0.1 G1.1⟩⟩
 case round=>
  clear H'
  try clear hcz5_0
  try clear hcz5_1
  try clear hcz5_2
  try clear hcz5_3
  try clear hfz5_0
  try clear hfz5_1
  try clear hfz5_2
  try clear hfz5_3
  obtain ⟨x0,x1,rfl,HA,HK1,O0,B0,B2,HB⟩:=hrel
  cases gk with
  |zero=>exact absurd HA.1 (by simp [impl_cloneMeta.l0])
  |succ k1=>
   have H:=HA.1
   clear HA
   simp only [impl_cloneMeta.l0] at H
   by_cases c6:x1<(l2.length:Int)
   ·rw [if_pos c6] at H
    have c6b0:=z6 c6
    clear c6
    by_cases c7:0≤x1
    ·rw [if_pos c7] at H
     have c7b0:=z6 c7
     clear c7
     by_cases c8:x1<(l2.length:Int)
     ·rw [if_pos c8] at H
      have c8b0:=z6 c8
      clear c8
      replace H:=z2a H
      obtain ⟨t0,A1,H⟩:=H
      replace H:(if x0.length<4398046511104 then (impl_cloneMeta.l0 k1 (x0++[(⟨(zF l2 x1).f0,t0⟩:S112)]) l2 (l2.length:Int) (wrap64 (x1+1)) a0 a1 a2 l2) else (none))=some (r1,r2,r3,r4):=H
      have A9:=zz A1
      clear A1
      by_cases c10:x0.length<4398046511104
      ·rw [if_pos c10] at H
       have LMc10:=zz c10
       clear c10
       obtain ⟨y0,i0⟩:∃y_:List (S112),y_=(x0++[(⟨(zF l2 x1).f0,t0⟩:S112)]):=⟨_,rfl⟩
       replace H:(impl_cloneMeta.l0 k1 y0 l2 (l2.length:Int) (wrap64 (x1+1)) a0 a1 a2 l2)=some (r1,r2,r3,r4):=zq20
       have Y0:=zz i0
       clear i0
       have H':=zz H
       clear H
       have p0:0≤(x1:Int):=z8 zq21
       have q0:x1<(l2.length:Int):=z8 zq21
       obtain ⟨b0,A2,c1,e0,k0,k2,hl420_1,hi420_1⟩:=zxb R0.1 x1 p0 q0
       cases e0
       replace k0:=(HB.1.cell (z0a w _ k0)).trans k0
       replace k2:=(HB.1.cell (z0a w _ k2)).trans k2
       have R1:=zz hi420_1
       have C0:=zz hl420_1
       clear hi420_1 hl420_1
       replace p0:=eq_true p0
       replace q0:=eq_true q0
       try go_wp2_with (first|((with_reducible refine zd (N:=5) rfl ?_);refine zx rfl (N:=5) rfl (cs:= #[.int .i64 0,.slice none 0 0]) (t:=112) zq27 ?_;intro g2 hg w5 hbox hb;have B4:=zz hbox;have G2:=zz (zq35 G0.1 G1.1:w.heap.size≤g2);have N2:=zz (by rw [hg];exact z8a (zP (g:=g0) (o:= .cells #[.int .i64 a0,.int .i64 a1,.int .i64 a2,.slice (some b0) l2.length c0] 40 (0,0)) (zq1 B0.1)):g0≠g2);have N3:=zz (by rw [hg];exact z7a (zP (g:=g0) (o:= .cells #[.int .i64 a0,.int .i64 a1,.int .i64 a2,.slice (some b0) l2.length c0] 40 (0,0)) (zq1 B0.1)):g2≠g0);have N4:=zz (zq83 B2.1:g1≠g2);have N5:=zz (zq84 B2.1:g2≠g1);replace O0:=zz (Kd.S_below (Kd.S_elderB (zq112 O0.1) g2 (Nat.le_of_eq hg.symm)) hb);replace B0:=zz (zg (g:=g0) (o:= .cells #[.int .i64 a0,.int .i64 a1,.int .i64 a2,.slice (some b0) l2.length c0] 40 (0,0)) (zq1 B0.1) hb);replace B2:=zz (zg (g:=g1) (o:= .cells #[.int .i64 0,.int .i64 0,.int .i64 0,.slice none 0 0] 40 (0,0)) (zq1 B2.1) hb);replace HB:=zz (ze (zq5 G0.1 G1.1) hb);clear hb hbox hg;have hnb12:=N3.1;have hnc12:=N2.1;have hnb13:=N5.1;have hnc13:=N4.1;obtain ⟨_,_,_,_⟩:=zV B4.1))
       have n0:Z0 (Kd.S k112 112 ((w5.setCell ⟨g2,0,none⟩ (.int .i64 ((zF l2 x1).f0))).setCell ⟨g2,1,none⟩ (.slice A2 ((zF l2 x1).f1).length c1)) w.heap.size (fun k_=>k_≠g2) u3 x0):=⟨by (with_reducible repeat (first|apply Kd.S_alloc|apply Kd.S_drewN|apply Kd.S_drew));exact Kd.S_mono (Kd.S_far (p:=⟨g2,1,none⟩) (Kd.S_far (p:=⟨g2,0,none⟩) (Kd.S_mono O0.1 (fun k_ hk=>(⟨hk,hk.2⟩:_∧k_≠g2))) (fun _ hk=>hk.2) (.int .i64 ((zF l2 x1).f0))) (fun _ hk=>hk.2) (.slice A2 ((zF l2 x1).f1).length c1)) (fun _ hk=>hk.1.2)⟩
       have n1:Z0 (((w5.setCell ⟨g2,0,none⟩ (.int .i64 ((zF l2 x1).f0))).setCell ⟨g2,1,none⟩ (.slice A2 ((zF l2 x1).f1).length c1)).heap[g0]?=some (.cells #[.int .i64 a0,.int .i64 a1,.int .i64 a2,.slice (some b0) l2.length c0] 40 (0,0))):=⟨by (with_reducible repeat (first|refine zk ?_ _|refine zl ?_|refine zh ?_ _));refine zka ?_ N2.1 _;(with_reducible repeat (first|refine zk ?_ _|refine zl ?_|refine zh ?_ _));refine zka ?_ N2.1 _;(with_reducible repeat (first|refine zk ?_ _|refine zl ?_|refine zh ?_ _));exact B0.1⟩
       have n2:Z0 (((w5.setCell ⟨g2,0,none⟩ (.int .i64 ((zF l2 x1).f0))).setCell ⟨g2,1,none⟩ (.slice A2 ((zF l2 x1).f1).length c1)).heap[g1]?=some (.cells #[.int .i64 0,.int .i64 0,.int .i64 0,.slice none 0 0] 40 (0,0))):=⟨by (with_reducible repeat (first|refine zk ?_ _|refine zl ?_|refine zh ?_ _));refine zka ?_ N4.1 _;(with_reducible repeat (first|refine zk ?_ _|refine zl ?_|refine zh ?_ _));refine zka ?_ N4.1 _;(with_reducible repeat (first|refine zk ?_ _|refine zl ?_|refine zh ?_ _));exact B2.1⟩
       have n3:Z0 (((w5.setCell ⟨g2,0,none⟩ (.int .i64 ((zF l2 x1).f0))).setCell ⟨g2,1,none⟩ (.slice A2 ((zF l2 x1).f1).length c1)).heap[g2]?=some (.cells #[.int .i64 ((zF l2 x1).f0),.slice A2 ((zF l2 x1).f1).length c1] 112 (0,0))):=⟨by (with_reducible repeat (first|refine zk ?_ _|refine zl ?_|refine zh ?_ _));refine zW (cs:= #[.int .i64 ((zF l2 x1).f0),.slice none 0 0]) ?_ 1 _ rfl;(with_reducible repeat (first|refine zk ?_ _|refine zl ?_|refine zh ?_ _));refine zW (cs:= #[.int .i64 0,.slice none 0 0]) ?_ 0 _ rfl;(with_reducible repeat (first|refine zk ?_ _|refine zl ?_|refine zh ?_ _));exact B4.1⟩
       have n4:Z0 (Below w.heap.size w ((w5.setCell ⟨g2,0,none⟩ (.int .i64 ((zF l2 x1).f0))).setCell ⟨g2,1,none⟩ (.slice A2 ((zF l2 x1).f1).length c1))):=⟨zq11 G0.1 G1.1 G2.1⟩
       (try clear O0)
       (try clear B0)
       (try clear B2)
       (try clear B4)
       (try clear HB)
       generalize ((w5.setCell ⟨g2,0,none⟩ (.int .i64 ((zF l2 x1).f0))).setCell ⟨g2,1,none⟩ (.slice A2 ((zF l2 x1).f1).length c1))=w6 at n0 n1 n2 n3 n4 ⊢
       have O0:=n0
       have B0:=n1
       have B2:=n2
       have B4:=n3
       have HB:=n4
       clear n0 n1 n2 n3 n4
       have n0:=zz (Kd.S_drew O0.1)
       have n1:=zz (zl B0.1)
       have n2:=zz (zl B2.1)
       have n3:=zz (zl B4.1)
       have n4:=zz (zR HB.1)
       clear O0
       clear B0
       clear B2
       clear B4
       clear HB
       have O0:=n0
       have B0:=n1
       have B2:=n2
       have B4:=n3
       have HB:=n4
       clear n0 n1 n2 n3 n4
       refine zVb (n:=10) (S:=fun w'=>w'.cell? ⟨g2,0,none⟩=some (.int .i64 ((zF l2 x1).f0))∧w'.cell? ⟨g2,1,none⟩=some (.slice A2 ((zF l2 x1).f1).length c1)) (ds:=[]) #[false,false,false,false,false,false,false,false,false,false] zq13 rfl rfl ⟨(zj B4.1 0).trans rfl,(zj B4.1 1).trans rfl⟩ (fun hHeld=> ?_);refine zYa impl_cloneMeta.tab5 impl_cloneMeta.bits5 (fun HT_ HW_=> ?_)
       generalize w6.drew=w16 at O0 B0 B2 B4 HB hHeld ⊢
       refine zia (i:=0) (N:=some 13) (v:= ?_) (a':= ?_) #[true,false,false,false,false,false,false,false,false,false] rfl rfl (zQ HT_.1 zq13) (fun _ _ _ h=>h) (Or.inl ⟨zq22,zq12⟩) zq10 ?_
       refine zia (i:=1) (N:=some 14) (v:= ?_) (a':= ?_) #[true,true,false,false,false,false,false,false,false,false] rfl rfl (zQ HT_.1 zq13) (fun _ _ _ h=>h) (Or.inl ⟨zq22,zq12⟩) zq10 ?_
       refine zia (i:=3) (N:=some 16) (v:= ?_) (a':= ?_) #[true,true,false,true,false,false,false,false,false,false] rfl rfl (zQ HT_.1 zq13) (fun _ _ _ h=>h) (Or.inl ⟨zq22,zq12⟩) zq10 ?_
       refine take_ (i:=2) (N:=some 15) (v:= ?_) (a':= ?_) #[true,true,true,true,false,false,false,false,false,false] rfl rfl (zja HT_.1 HW_.1 zq13) (fun _ _ _ h=>h) (Or.inl ⟨zq22,zq85⟩) hHeld zq10 ?_
       refine take_ (i:=4) (N:=some 17) (v:= ?_) (a':= ?_) #[true,true,true,true,true,false,false,false,false,false] rfl rfl (zja HT_.1 HW_.1 zq13) (fun _ _ _ h=>h) (Or.inl ⟨zq22,zq85⟩) hHeld zq10 ?_
       refine one_ (i:=5) (N:=some 18) #[true,true,true,true,true,true,false,false,false,false] rfl rfl (zVa HT_.1 zq13) zq31 (fun K hK=> ?_)
       refine goes_ Tryz.func87 zq13 rfl #[.slice A2 ((zF l2 x1).f1).length c1] zq22 rfl rfl zq8 ?_
       with_reducible refine (slices_Clone_int_int.calls _ _ ((zF l2 x1).f1) t0 _ ?side1 ?side2 A9.1).mono ?_
       (case side1=>repeat (first|exact (Kd.C_below R1.1 HB.1)|(with_reducible refine Kd.C_alloc ?_ _)|(with_reducible refine Kd.C_drewN ?_ _)|(with_reducible refine Kd.C_drew ?_)))
       (case side2=>exact C0.1)
       rintro e w17 ⟨v423,rfl,ho0,hb⟩
       refine ⟨_,rfl,?_⟩
       have n0:=zz (Kd.S_elder' (zq112 O0.1) (Kd.R_base ho0) hb)
       have n1:=zz (Kd.R_lower ho0 (zD (zq11 G0.1 G1.1 G2.1)))
       have n2:=zz (zg (g:=g0) (o:= .cells #[.int .i64 a0,.int .i64 a1,.int .i64 a2,.slice (some b0) l2.length c0] 40 (0,0)) (zq1 B0.1) hb)
       have n3:=zz (zg (g:=g1) (o:= .cells #[.int .i64 0,.int .i64 0,.int .i64 0,.slice none 0 0] 40 (0,0)) (zq1 B2.1) hb)
       have n4:=zz (zg (g:=g2) (o:= .cells #[.int .i64 ((zF l2 x1).f0),.slice A2 ((zF l2 x1).f1).length c1] 112 (0,0)) (zq1 B4.1) hb)
       have n5:=zz (ze (zq11 G0.1 G1.1 G2.1) hb)
       clear O0
       clear B0
       clear B2
       clear B4
       clear HB
       have O0:=n0
       have O1:=n1
       have B0:=n2
       have B2:=n3
       have B4:=n4
       have HB:=n5
       clear n0 n1 n2 n3 n4 n5
       (try clear hb)
       (try clear hb2)
       (try clear hk)
       (try clear hi)
       (try clear ho0)
       obtain ⟨A4,c11,e1⟩:=Kd.R_slice O1.1
       (first|subst e1|(injection e1 with f1_ f2_ f3_;have f4_:=f1_.symm;have f5_:=f3_.symm;clear f1_ f2_ f3_;subst f4_;subst f5_))
       refine hK.out _ _ ⟨(zj B4.1 0).trans rfl,(zj B4.1 1).trans rfl⟩ (fun hHeld=> ?_)
       clear hK K
       refine zUb (a':= ?_) ?_ ?_
       rotate_left
       ·show Act.put _ (some 18) _=_
        exact zq146
       refine zia (i:=6) (N:=some 19) (v:= ?_) (a':= ?_) #[true,true,true,true,true,true,true,false,false,false] rfl rfl (zQ HT_.1 zq13) (fun _ _ _ h=>h) (Or.inl ⟨zq22,zq12⟩) zq10 ?_
       refine one_ (i:=7) (N:=some 20) #[true,true,true,true,true,true,true,true,false,false] rfl rfl (zVa HT_.1 zq13) zq31 (fun K hK=> ?_)
       refine value_ (w1:= ?_) (v:= ?_) zq22 rfl ?_ ?_
       rotate_left 2
       ·go_simp
        constructor
        ·rfl
        ·rfl
       refine hK.out _ _ ⟨(zj (zh B4.1 _) 0).trans rfl,(zj (zh B4.1 _) 1).trans rfl⟩ (fun hHeld=> ?_)
       clear hK K
       refine zUb (a':= ?_) ?_ ?_
       rotate_left
       ·show Act.put _ (some 20) _=_
        exact zq146
       refine one_ (i:=8) (N:=some 21) #[true,true,true,true,true,true,true,true,true,false] rfl rfl (zVa HT_.1 zq13) zq31 (fun K hK=> ?_)
       refine Kd.S_append_step k112 (w0:=w) w.heap.size zq22 (.tmp 13) (.tmp 20) 38 112 (.agg #[(.int .i64 0),(.slice none 0 0)]) 32 rfl Tryz.underlying38 info112 rfl zq31 zq9 u3 x0 (⟨(zF l2 x1).f0,t0⟩:S112) [.int .i64 ((zF l2 x1).f0),.slice A4 t0.length c11] (fun k_=>k_≠g2) (fun k_=>some k_=(.slice A4 t0.length c11:Value).ownBlock) rfl rfl ?aP (fun k_ hk_=>((Kd.R_mono (ok':=fun k_=>((fun k_=>k_≠g2)) k_∧some k_≠(u3:Value).ownBlock) (Kd.R_types (Kd.R_apart' (O1.1) (Kd.S_typed O0.1) zq31) B4.1 zq31) (fun k_ hk=>⟨hk.2,hk.1.2⟩))).1 k_ hk_.symm) ?aF ?aO ?aB ?aS ?aL ?_
       (case aP=>exact zyb _ _ _ (⟨(zF l2 x1).f0,t0⟩:S112) (Kd.R_mono (Kd.R_tight rfl (Kd.R_mono (ok':=fun k_=>((fun k_=>k_≠g2)) k_∧some k_≠(u3:Value).ownBlock) (Kd.R_types (Kd.R_apart' (O1.1) (Kd.S_typed O0.1) zq31) B4.1 zq31) (fun k_ hk=>⟨hk.2,hk.1.2⟩))) (fun _ h_=>h_)))
       (case aB=>exact (zq11 G0.1 G1.1 G2.1))
       (case aF=>exact (fun k_ hk=>Kd.freshB (g:=g2) (o:= .cells #[.int .i64 ((zF l2 x1).f0),.slice A2 ((zF l2 x1).f1).length c1] 112 (0,0)) (zq1 B4.1) k_ hk))
       (case aO=>exact (by (with_reducible repeat (first|apply Kd.S_alloc|apply Kd.S_drewN|apply Kd.S_drew));exact Kd.S_mono O0.1 (fun k_ hk=>⟨hk.1,fun e_=>hk.2 e_⟩)))
       (case aS=>exact (zD (zq11 G0.1 G1.1 G2.1)))
       (case aL=>have:=LMc10.1;omega)
       intro v426 w19 ho hb hg hat
       rw [←Y0.1] at ho
       have n0:=zz (zK (g:=g0) (o:= .cells #[.int .i64 a0,.int .i64 a1,.int .i64 a2,.slice (some b0) l2.length c0] 40 (0,0)) (zq1 B0.1) hg (Kd.S_ne O0.1 B0.1 zq31))
       have n1:=zz (zK (g:=g1) (o:= .cells #[.int .i64 0,.int .i64 0,.int .i64 0,.slice none 0 0] 40 (0,0)) (zq1 B2.1) hg (Kd.S_ne O0.1 B2.1 zq31))
       have n2:=zz (zK (g:=g2) (o:= .cells #[.int .i64 ((zF l2 x1).f0),.slice A2 ((zF l2 x1).f1).length c1] 112 (0,0)) (zq1 B4.1) hg (Kd.S_away O0.1 (fun _ hk=>hk.1)))
       have n3:=zz (hb)
       have n4:=zz (ho)
       clear B0
       clear B2
       clear B4
       clear HB
       clear O0
       clear O1
       have B0:=n0
       have B2:=n1
       have B4:=n2
       have HB:=n3
       have O2:=n4
       clear n0 n1 n2 n3 n4
       clear ho hb hg hat
       refine hK.out _ _ ⟨(zj B4.1 0).trans rfl,(zj B4.1 1).trans rfl⟩ (fun hHeld=> ?_)
       clear hK K
       refine zUb (a':= ?_) ?_ ?_
       rotate_left
       ·show Act.put _ (some 21) _=_
        exact zq146
       refine zia (i:=9) (N:=some 3) (v:= ?_) (a':= ?_) #[true,true,true,true,true,true,true,true,true,true] rfl rfl (zQ HT_.1 zq13) (fun _ _ _ h=>h) (Or.inl ⟨zq22,zq12⟩) zq10 ?_
       refine done_ (done_of HT_.1 zq13) ?_
       try go_wp2
       go_roundg k1
       case measure=>have:=HK1.1;omega
       case rel=>exact ⟨(y0),(wrap64 (x1+1)),zq18,H',⟨zq51 HK1.1⟩,⟨by (with_reducible repeat (first|apply Kd.S_alloc|apply Kd.S_drewN|apply Kd.S_drew));exact Kd.S_mono O2.1 (fun _ hk=>trivial)⟩,⟨by (with_reducible repeat (first|refine zk ?_ _|refine zl ?_|refine zh ?_ _));exact B0.1⟩,⟨by (with_reducible repeat (first|refine zk ?_ _|refine zl ?_|refine zh ?_ _));exact B2.1⟩,⟨zq11 G0.1 G1.1 G2.1⟩⟩
      ·rw [if_neg c10] at H
       exact absurd H zq38
     ·rw [if_neg c8] at H
      exact absurd H zq38
    ·exact zq176
   ·rw [if_neg c6] at H
    have c6b0:=z7 c6
    clear c6
    simp only [Option.some.injEq,Prod.mk.injEq] at H
    obtain ⟨rfl,rfl,rfl,rfl⟩:=H
    obtain ⟨A5,c12,e2⟩:=Kd.S_slice O0.1
    subst e2
    have hnb21:=N0.1
    have hnc21:=N1.1
    have hcz22_0:wr.cell? ⟨g0,0,none⟩=some (.int .i64 a0):=(zj B0.1 0).trans rfl
    have hcz22_1:wr.cell? ⟨g0,1,none⟩=some (.int .i64 a1):=(zj B0.1 1).trans rfl
    have hcz22_2:wr.cell? ⟨g0,2,none⟩=some (.int .i64 a2):=(zj B0.1 2).trans rfl
    have hcz22_3:wr.cell? ⟨g0,3,none⟩=some (.slice A0 l2.length c0):=(zj B0.1 3).trans rfl
    have hfz22_0:=zu B0.1 0
    have hfz22_1:=zu B0.1 1
    have hfz22_2:=zu B0.1 2
    have hfz22_3:=zu B0.1 3
    have hcz23_0:wr.cell? ⟨g1,0,none⟩=some (.int .i64 0):=(zj B2.1 0).trans rfl
    have hcz23_1:wr.cell? ⟨g1,1,none⟩=some (.int .i64 0):=(zj B2.1 1).trans rfl
    have hcz23_2:wr.cell? ⟨g1,2,none⟩=some (.int .i64 0):=(zj B2.1 2).trans rfl
    have hcz23_3:wr.cell? ⟨g1,3,none⟩=some (.slice none 0 0):=(zj B2.1 3).trans rfl
    have hfz23_0:=zu B2.1 0
    have hfz23_1:=zu B2.1 1
    have hfz23_2:=zu B2.1 2
    have hfz23_3:=zu B2.1 3
    go_wp2
    refine bodyPost_ret (results_cell_row rfl _ _ g1 40 #[.int .i64 a0,.int .i64 a1,.int .i64 a2,.slice A5 x0.length c12] (0,0) _ rfl (zq37 N1.1 B2.1) Tryz.underlying40 rfl zq13) rfl ?_
    exact ⟨_,zq16,by (with_reducible repeat (first|apply Kd.S_alloc|apply Kd.S_drewN|apply Kd.S_drew));exact Kd.S_mono (Kd.S_far (p:=⟨g1,3,none⟩) (Kd.S_far (p:=⟨g1,2,none⟩) (Kd.S_far (p:=⟨g1,1,none⟩) (Kd.S_far (p:=⟨g1,0,none⟩) (Kd.S_far (p:=⟨g0,3,none⟩) (Kd.S_types (Kd.S_types O0.1 B0.1 zq31) B2.1 zq31) (fun _ hk=>hk.1.2) (.slice A5 x0.length c12)) (fun _ hk=>hk.2) (.int .i64 a0)) (fun _ hk=>hk.2) (.int .i64 a1)) (fun _ hk=>hk.2) (.int .i64 a2)) (fun _ hk=>hk.2) (.slice A5 x0.length c12)) (fun _ hk=>trivial),zq5 G0.1 G1.1⟩
theorem zdb (k:Nat) (x y:S40) {cs:List Value} (w:World) (h:k40.K w x cs) (hf:impl_cloneMeta.f k x.f0 x.f1 x.f2 x.f3=some (y.f0,y.f1,y.f2,y.f3)):
  Calls Tryz.prog 44 #[.agg cs.toArray] w fun e w'=>∃ds:List Value,e= .returned (.agg ds.toArray)∧k40.M w' w.heap.size (Fr w w') y ds∧Below w.heap.size w w':=by
 obtain ⟨A3,c3,rfl,m3,r3⟩:=zEa h
 refine (impl_cloneMeta.calls k x.f0 x.f1 x.f2 A3 c3 x.f3 y.f0 y.f1 y.f2 y.f3 w r3 m3 hf).mono ?_
 rintro e w' ⟨v3,rfl,R,hb⟩
 exact ⟨[.int .i64 y.f0,.int .i64 y.f1,.int .i64 y.f2,v3],rfl,zlb _ _ _ y (Kd.S_mono (Kd.S_bound R) (fun k hk=>⟨hk.2.1,hk.2.2.1⟩)),hb⟩
theorem cloneDisk_o (l0:List ByteArray) (l1:List S110) (q0:List ByteArray) (q1:List S110) {cs:List Value} (w:World) (h:kDisk.K w (l0,l1) cs) (hf:impl_cloneDisk.f l0 l1=some (q0,q1)):
  Calls Tryz.prog 46 #[.agg cs.toArray] w fun e w'=>∃ds:List Value,e= .returned (.agg ds.toArray)∧kDisk.M w' w.heap.size (Fr w w') (q0,q1) ds∧Below w.heap.size w w':=by
 obtain ⟨A0,c0,A1,c1,rfl,m0,r0,m1,r1⟩:=zza h
 refine (impl_cloneDisk.calls A0 c0 l0 A1 c1 l1 q0 q1 w r0 m0 r1 m1 hf).mono ?_
 rintro e w' ⟨v0,v1,rfl,R0,R1,hb⟩
 have T0:=Own.R_tightB rfl R0
 have T1:=Own.R_tightB rfl R1
 exact ⟨[v0,v1],rfl,zub T0.1 T1.1 T0.2.1 T1.2.1 (Own.types_ne T0.2.2 T1.2.2 zq31),hb⟩
def zua (x:S40):Prop:=x.f3.length≤2000000∧∀f∈x.f3,f.f1.length≤2000000
theorem R_made0 {α:Type} (d:Kd α) (e base:Nat) (w:World) (ok:Nat→Prop) (hb:base≤w.heap.size) (hok:ok w.heap.size):Kd.R d e (w.alloc (.cells #[] e)) base ok (.slice (some ⟨w.heap.size,0,none⟩) 0 0) []:=
 ⟨fun k hk=>by simp [Value.ownBlock] at hk;rw [←hk];exact hok,[],World.ownsRow_made w #[] 0 hb zq31 zq38,Reps.none _ _⟩
theorem S_madeL {α:Type} (d:Kd α) (e base:Nat) (w:World) (ok:Nat→Prop) (hb:base≤w.heap.size) (hok:ok w.heap.size):Kd.S d e (w.alloc (.cells #[] e)) base ok (.slice (some ⟨w.heap.size,0,none⟩) 0 0) []:=⟨fun _=>0,R_made0 _ e base w ok hb hok⟩
def l06Copy.T6:Bool×List (List Nat×List Nat):=(true,[([],[]),([0],[0]),([],[]),([2],[2]),([],[]),([3,4],[3,4]),([5],[5]),([6],[6]),([],[]),([],[]),([9],[9]),([],[]),([10,11],[10,11]),([12],[12]),([13],[13]),([8,14],[8,14]),([7,15],[7,15]),([16],[16]),([1,17,15],[1,17]),([0,1,2,3,4,5,6,7,8,9,10,11,12,13,14,15,16,17,18],[]),([19,18,18,0,1,2,3,4,5,6,7,8,9,10,11,12,13,14,15,16,17,18],[18,19])])
def l06Copy.B6:List Nat:=[0,1,0,4,0,28,60,124,0,0,512,0,3584,7680,15872,32512,65532,131068,262143,524287,1048575]
theorem l06Copy.ok6_1:regB (zFa Tryz.f34 6) l06Copy.T6 l06Copy.B6 [20] [.p 0,.t 1,.p 2,.t 3,.p 4,.p 5,.p 6,.t 7,.p 9,.t 10,.p 11,.p 12,.p 13,.t 14,.e 8,.e 15,.p 16,.e 17,.e 18,.p 19,.l 20]=true:=zq13
theorem zkb (x y:S40) {cs:List Value} (w:World) (h:k40.K w x cs) (hf:y=x∧zua x):
  Calls Tryz.prog 34 #[.agg cs.toArray] w fun e w'=>∃ds:List Value,e= .returned (.agg ds.toArray)∧k40.M w' w.heap.size (Fr w w') y ds∧Below w.heap.size w w':=by
 obtain ⟨hyx,hx⟩:=hf
 have hxy:=hyx.symm
 clear hyx
 subst hxy
 obtain ⟨AF,cF,rfl,mF,rF⟩:=zEa h
 have KR:=zz rF
 have FL:=zz hx
 clear h mF rF hx
 have BA:=zz (show (((w.alloc (.cells [.int .i64 x.f0,.int .i64 x.f1,.int .i64 x.f2,.slice AF x.f3.length cF].toArray 40)).alloc (.cells [.int .i64 0,.int .i64 0,.int .i64 0,.slice none 0 0].toArray 40))).heap[w.heap.size]?=some (.cells ([.int .i64 x.f0,.int .i64 x.f1,.int .i64 x.f2,.slice AF x.f3.length cF]:List Value).toArray 40 (0,0)) from zh (zqa w (.cells [.int .i64 x.f0,.int .i64 x.f1,.int .i64 x.f2,.slice AF x.f3.length cF].toArray 40)) _)
 have BR:=zz (show (((w.alloc (.cells [.int .i64 x.f0,.int .i64 x.f1,.int .i64 x.f2,.slice AF x.f3.length cF].toArray 40)).alloc (.cells [.int .i64 0,.int .i64 0,.int .i64 0,.slice none 0 0].toArray 40))).heap[w.heap.size+1]?=some (.cells ([.int .i64 0,.int .i64 0,.int .i64 0,.slice none 0 0]:List Value).toArray 40 (0,0)) from (by have:=zqa (w.alloc (.cells [.int .i64 x.f0,.int .i64 x.f1,.int .i64 x.f2,.slice AF x.f3.length cF].toArray 40)) (.cells ([.int .i64 0,.int .i64 0,.int .i64 0,.slice none 0 0]:List Value).toArray 40);rwa [show ((w.alloc (.cells [.int .i64 x.f0,.int .i64 x.f1,.int .i64 x.f2,.slice AF x.f3.length cF].toArray 40))).heap.size=w.heap.size+1 from by simp] at this))
 have HB:=zz (zo (zo (z1a w.heap.size w) (.cells [.int .i64 x.f0,.int .i64 x.f1,.int .i64 x.f2,.slice AF x.f3.length cF].toArray 40)) (.cells [.int .i64 0,.int .i64 0,.int .i64 0,.slice none 0 0].toArray 40))
 have HZ:=zz (show (((w.alloc (.cells [.int .i64 x.f0,.int .i64 x.f1,.int .i64 x.f2,.slice AF x.f3.length cF].toArray 40)).alloc (.cells [.int .i64 0,.int .i64 0,.int .i64 0,.slice none 0 0].toArray 40))).heap.size=w.heap.size+1+1 from by simp)
 have BN:=zz (show (((w.alloc (.cells [.int .i64 x.f0,.int .i64 x.f1,.int .i64 x.f2,.slice AF x.f3.length cF].toArray 40)).alloc (.cells [.int .i64 0,.int .i64 0,.int .i64 0,.slice none 0 0].toArray 40)).alloc (.cells [.int .i64 0,.int .i64 0,.int .i64 0,.slice none 0 0].toArray 40)).heap[w.heap.size+1+1]?=some (.cells ([.int .i64 0,.int .i64 0,.int .i64 0,.slice none 0 0]:List Value).toArray 40 (0,0)) from (by have:=zqa ((w.alloc (.cells [.int .i64 x.f0,.int .i64 x.f1,.int .i64 x.f2,.slice AF x.f3.length cF].toArray 40)).alloc (.cells [.int .i64 0,.int .i64 0,.int .i64 0,.slice none 0 0].toArray 40)) (.cells ([.int .i64 0,.int .i64 0,.int .i64 0,.slice none 0 0]:List Value).toArray 40);rwa [HZ.1] at this))
 go_enter Tryz.func34,Tryz.ntmps34
 go_upto_region 2 with (first|((with_reducible refine zd (N:=5) rfl ?_);refine zf rfl 40 _ rfl w.heap.size 0 [] [.int .i64 x.f0,.int .i64 x.f1,.int .i64 x.f2,.slice AF x.f3.length cF] [] _ rfl BA.1 rfl rfl Tryz.underlying40 rfl zq13 ?_)|((with_reducible refine zm (t:=40) (p:=3) rfl ?_);refine zn rfl 40 _ _ rfl rfl (w.heap.size+1+1) 0 [.int .i64 x.f0,.int .i64 x.f1,.int .i64 x.f2,.slice AF x.f3.length cF] [] [.int .i64 0,.int .i64 0,.int .i64 0,.slice none 0 0] [] rfl rfl BN.1 rfl rfl rfl zq13 (fun v hv=>by simp only [List.mem_cons,List.not_mem_nil,or_false] at hv;rcases hv with rfl|rfl|rfl|rfl<;>rfl) ?_;intro W1 hp hn;have BO:=zz hn;have P1:=zz hp;clear hp hn))
 have hb1:=P1.1.below ((w.alloc (.cells [.int .i64 x.f0,.int .i64 x.f1,.int .i64 x.f2,.slice AF x.f3.length cF].toArray 40)).alloc (.cells [.int .i64 0,.int .i64 0,.int .i64 0,.slice none 0 0].toArray 40)) (Nat.le_of_eq HZ.1) (zo (z1a _ _) _)
 replace BA:=zz (zg BA.1 hb1)
 replace BR:=zz (zg BR.1 hb1)
 replace HB:=zz (ze HB.1 hb1)
 have HZ1:=zz (show w.heap.size+1+1<W1.heap.size from zP BO.1)
 clear hb1 P1 HZ BN
 go_wp2_with ((with_reducible refine zm (t:=38) (p:=7) rfl ?_);refine zT rfl 38 _ _ rfl rfl (w.heap.size+1+1) 3 (.slice (some ⟨W1.heap.size,0,none⟩) 0 0) (.slice AF x.f3.length cF) [.int .i64 x.f0,.int .i64 x.f1,.int .i64 x.f2] [] rfl rfl (zh BO.1 _) rfl rfl zq13 rfl rfl ?_;intro W2 hp hn;have BO2:=zz hn;have HO:=zz (putS (S_madeL k112 112 w.heap.size W1 (fun k=>w.heap.size+1+1<k) (zq51 HZ1.1) HZ1.1) hp (fun k h e=>by omega));have BA2:=zz (zTa (zh BA.1 _) hp zq9);have BR2:=zz (zTa (zh BR.1 _) hp zq9);have HB2:=zz (hp.below w zq9 (zo HB.1 _));have HZ2:=zz (show w.heap.size+1+1<W2.heap.size from zP hn);clear BA BR HB BO hp hn)
 go_loopg [4] (x.f3.length+1) (fun kq v4 w'=>∃(i:Nat) (v:Value),v4= .int .i64 (i:Int)∧Z0 (kq+i=x.f3.length+1)∧Z0 (i≤x.f3.length)∧Z0 (Kd.S k112 112 w' w.heap.size (fun k=>w.heap.size+1+1<k) v (x.f3.take i))∧Z0 (w'.heap[w.heap.size]?=some (.cells ([.int .i64 x.f0,.int .i64 x.f1,.int .i64 x.f2,.slice AF x.f3.length cF]:List Value).toArray 40 (0,0)))∧Z0 (w'.heap[w.heap.size+1]?=some (.cells ([.int .i64 0,.int .i64 0,.int .i64 0,.slice none 0 0]:List Value).toArray 40 (0,0)))∧Z0 (w'.heap[w.heap.size+1+1]?=some (.cells (([.int .i64 x.f0,.int .i64 x.f1,.int .i64 x.f2]:List Value)++([v]++[])).toArray 40 (0,0)))∧Z0 (Below w.heap.size w w')∧Z0 (w.heap.size+1+1<w'.heap.size))
 case atStart=>exact ⟨0,_,rfl,⟨zq9⟩,⟨z0b _⟩,HO,BA2,BR2,BO2,HB2,HZ2⟩
 case round=>
  clear BA2 BR2 BO2 HB2 HZ2 HO
  obtain ⟨i,v,rfl,HQ,HI,HO,BA,BR,BO,HB,HZ⟩:=hrel
  obtain ⟨xs,hxs⟩:∃xs,xs=x.f3.take i:=⟨_,rfl⟩
  rw [←hxs] at HO
  have HX:=zz hxs
  clear hxs
  obtain ⟨Av,cv,rfl⟩:=Kd.S_slice HO.1
  have hp3:wr.cell? ⟨w.heap.size,3,none⟩=some (.slice AF x.f3.length cF):=part_cell (pre:=[.int .i64 x.f0,.int .i64 x.f1,.int .i64 x.f2]) (post:=[]) BA.1 rfl rfl
  by_cases hlt:i<x.f3.length
  ·have c1:decide ((i:Int)<(x.f3.length:Int))=true:=z6 zq9
   have c0:decide ((0:Int)≤(i:Int))=true:=z6 zq9
   cases gk with
   |zero=>exact absurd HQ.1 zq9
   |succ k1=>
    obtain ⟨ad,A1,c11,hA,z0,z1,hl4,hC4⟩:=zxb KR.1 (i:Int) zq9 zq9
    subst hA
    obtain ⟨el,hel⟩:∃el,el=zF x.f3 (i:Int):=⟨_,rfl⟩
    have hel2:el=x.f3[i]:=zq72
    rw [←hel] at z0 z1 hl4 hC4
    simp only [Int.toNat_natCast] at z0 z1
    have Z0:=zz z0
    have Z1:=zz z1
    have KE:=zz hC4
    have HE:=zz hel2
    have EL:=zz (show el.f1.length≤2000000 from FL.1.2 el (by rw [hel2];exact List.getElem_mem hlt))
    have c2:((i:Int)<(x.f3.length:Int))=True:=eq_true zq9
    have c3:((0:Int)≤(i:Int))=True:=eq_true zq9
    clear hel hel2 hl4 hC4 z0 z1
    have OKV:=zz (show ∀k,(Value.slice Av xs.length cv).ownBlock=some k→w.heap.size+1+1<k from HO.1.choose_spec.1)
    have LV:=zz (Kd.S_lt HO.1)
    go_upto_region 6 with (fail)
    clear hp3
    replace BA:=zz (zg BA.1 (z1a wr.heap.size wr).drew)
    replace BR:=zz (zg BR.1 (z1a wr.heap.size wr).drew)
    replace BO:=zz (zg BO.1 (z1a wr.heap.size wr).drew)
    replace HB:=zz (ze HB.1 (z1a wr.heap.size wr).drew)
    replace HO:=zz (Kd.S_below HO.1 (z1a wr.heap.size wr).drew)
    replace HZ:=zz (z4a HZ.1 (z1a wr.heap.size wr).drew.size)
    have LW:=zz (z1a wr.heap.size wr).drew.size
    refine zMa l06Copy.ok6_1 (S:=fun w'=>w'.heap[w.heap.size]?=some (.cells ([.int .i64 x.f0,.int .i64 x.f1,.int .i64 x.f2,.slice (some ad) x.f3.length cF]:List Value).toArray 40 (0,0))∧w'.heap[w.heap.size+1+1]?=some (.cells (([.int .i64 x.f0,.int .i64 x.f1,.int .i64 x.f2]:List Value)++(([.slice Av xs.length cv]:List Value)++[])).toArray 40 (0,0))∧w'.cell? (ad.add (i*2))=some (.int .i64 el.f0)∧w'.cell? ⟨(ad.add (i*2)).block,(ad.add (i*2)).off+1,none⟩=some (.slice A1 el.f1.length c11)) zq13 (fun _ _ _ _ h=>h) ⟨BA.1,BO.1,((HB.1).cell (z0a w _ Z0.1)).trans Z0.1,((HB.1).cell (z0a w _ Z1.1)).trans Z1.1⟩ (fun hHeld=> ?_)
    generalize wr.drew=wd at BA BR BO HB HO HZ LW hHeld ⊢
    (refine zpa (v:= ?_) (a':= ?_) rfl rfl (Or.inl ⟨zq22,zq12⟩) zq3 ?_)
    refine zIb (a':= ?a1_4) rfl rfl zq22 38 _ rfl (w.heap.size+1+1) 3 [.int .i64 x.f0,.int .i64 x.f1,.int .i64 x.f2] (.slice Av xs.length cv) [] _ rfl (fun w' hs=>hs.2.1) (rfl) (rfl) Tryz.underlying38 rfl ?hp4 ?hk4
    case hp4=>(show Act.put _ (some _) _=_;simp only [Act.put,List.setIfInBounds_toArray,List.set_cons_zero,List.set_cons_succ,zKa,i32_w];try rfl)
    (refine zpa (v:= ?_) (a':= ?_) rfl rfl (Or.inl ⟨zq22,zq12⟩) zq3 ?_)
    refine zIb (a':= ?a1_5) rfl rfl zq22 38 _ rfl w.heap.size 3 [.int .i64 x.f0,.int .i64 x.f1,.int .i64 x.f2] (.slice (some ad) x.f3.length cF) [] _ rfl (fun w' hs=>hs.1) (rfl) (rfl) Tryz.underlying38 rfl ?hp5 ?hk5
    case hp5=>(show Act.put _ (some _) _=_;simp only [Act.put,List.setIfInBounds_toArray,List.set_cons_zero,List.set_cons_succ,zKa,i32_w];try rfl)
    iterate 3 (refine zpa (v:= ?_) (a':= ?_) rfl rfl (Or.inl ⟨zq22,zq12⟩) zq3 ?_)
    (refine zbb (v:= ?_) (a':= ?_) rfl rfl (Or.inl ⟨zq22,zq49⟩) zq3 ?_)
    (refine zpa (v:= ?_) (a':= ?_) rfl rfl (Or.inl ⟨zq22,zq12⟩) zq3 ?_)
    refine zIb (a':= ?a1_6) rfl rfl zq22 38 _ rfl w.heap.size 3 [.int .i64 x.f0,.int .i64 x.f1,.int .i64 x.f2] (.slice (some ad) x.f3.length cF) [] _ rfl (fun w' hs=>hs.1) (rfl) (rfl) Tryz.underlying38 rfl ?hp6 ?hk6
    case hp6=>(show Act.put _ (some _) _=_;simp only [Act.put,List.setIfInBounds_toArray,List.set_cons_zero,List.set_cons_succ,zKa,i32_w];try rfl)
    iterate 3 (refine zpa (v:= ?_) (a':= ?_) rfl rfl (Or.inl ⟨zq22,zq12⟩) zq3 ?_)
    (refine zbb (v:= ?_) (a':= ?_) rfl rfl (Or.inl ⟨zq22,zq49⟩) zq3 ?_)
    refine seq_e rfl rfl (fun K hK=> ?_)
    refine value_ (w1:= ?_) (v:= ?_) zq22 rfl ?_ ?_
    rotate_left 2
    ·go_simp
     constructor
     ·rfl
     ·rfl
    refine hK.out _ _ ⟨(zh BA.1 _),(zh BO.1 _),((zo HB.1 _).cell (z0a w _ Z0.1)).trans Z0.1,((zo HB.1 _).cell (z0a w _ Z1.1)).trans Z1.1⟩ (fun hHeld=> ?_)
    clear hK K
    refine zha (a':= ?_) zq3 ?_
    refine seq_e rfl rfl (fun K hK=> ?_)
    refine Kd.R_append_rows_step (Kd.int .i64) (Rr:=Kd.K (Kd.int .i64) (wd.alloc (.cells #[] 3))) (w0:=w) (W:=wd.alloc (.cells #[] 3)) w.heap.size zq22 (.tmp 23) (.tmp 29) 29 3 (.int .i64 0) 8 rfl Tryz.underlying29 info3 rfl zq31 zq31 (.slice (some ⟨wd.heap.size,0,none⟩) 0 0) [] el.f1 A1 el.f1.length c11 (fun k=>wd.heap.size≤k) (fun _=>False) rfl rfl ?aO ?aR (fun _ _ h=>h) (fun _ h=>h.elim) ?aF ?aB ?aS ?aL ?_
    (case aO=>exact R_made0 (Kd.int .i64) 3 w.heap.size wd _ HB.1.size (z3a _))
    (case aR=>exact Kd.C_below KE.1 (zo HB.1 _))
    (case aF=>exact (fun k h=>by simp at h;omega))
    (case aB=>exact zo HB.1 _)
    (case aS=>have:=HB.1.size;simp;omega)
    (case aL=>have:=EL.1;simp only [List.length_nil];omega)
    intro va wa ho hb hg hat
    rw [List.nil_append] at ho
    obtain ⟨Ai,ci,rfl⟩:=Kd.R_slice ho
    have RI:=zz ho
    have NW:=zz (show ∀k,k<wd.heap.size→wa.heap[k]?=wd.heap[k]? from fun k hk=>(hg.block k zq117 (fun e=>by have e2:some k=some wd.heap.size:=e;injection e2 with e2;omega)).trans (Below.heap_alloc wd _ k hk))
    have SW:=zz (show wd.heap.size<wa.heap.size from by have:=hg.size;simp at this;omega)
    replace BA:=zz ((NW.1 _ (by have:=HZ.1;omega)).trans BA.1)
    replace BR:=zz ((NW.1 _ (by have:=HZ.1;omega)).trans BR.1)
    replace BO:=zz ((NW.1 _ HZ.1).trans BO.1)
    replace HB:=zz hb
    have HF:=zz (Kd.S_mono (Kd.S_move (Kd.S_bound HO.1) (fun k hk=>NW.1 k hk.2.2.1)) (ok':=fun k=>w.heap.size+1+1<k∧¬(wd.heap.size≤k)) (fun k hk=>⟨hk.1,by have:=hk.2.2.1;omega⟩))
    clear HO ho hb hg hat
    refine hK.out _ _ ⟨BA.1,BO.1,((HB.1).cell (z0a w _ Z0.1)).trans Z0.1,((HB.1).cell (z0a w _ Z1.1)).trans Z1.1⟩ (fun hHeld=> ?_)
    clear hK K
    refine zha (a':= ?_) zq3 ?_
    (refine zpa (v:= ?_) (a':= ?_) rfl rfl (Or.inl ⟨zq22,zq12⟩) zq3 ?_)
    refine seq_e rfl rfl (fun K hK=> ?_)
    refine value_ (w1:= ?_) (v:= ?_) zq22 rfl ?_ ?_
    rotate_left 2
    ·go_simp
     constructor
     ·rfl
     ·rfl
    refine hK.out _ _ ⟨(zh BA.1 _),(zh BO.1 _),((zo HB.1 _).cell (z0a w _ Z0.1)).trans Z0.1,((zo HB.1 _).cell (z0a w _ Z1.1)).trans Z1.1⟩ (fun hHeld=> ?_)
    clear hK K
    refine zha (a':= ?_) zq3 ?_
    refine seq_e rfl rfl (fun K hK=> ?_)
    refine Kd.S_append_step k112 (w0:=w) (W:=wa) w.heap.size zq22 (.tmp 16) (.tmp 32) 38 112 (.agg #[.int .i64 0,.slice none 0 0]) 32 rfl Tryz.underlying38 info112 rfl zq31 zq9 (.slice Av xs.length cv) xs el [.int .i64 el.f0,.slice Ai el.f1.length ci] (fun k=>w.heap.size+1+1<k) (fun k=>wd.heap.size≤k) rfl rfl ?bM ?bP ?bF HF.1 HB.1 ?bS ?bL ?_
    (case bM=>exact zyb _ _ _ el RI.1)
    (case bP=>exact (fun k h=>⟨by have:=HZ.1;omega,fun e=>by have:=LV.1 k e.symm;have:=LW.1;omega⟩))
    (case bF=>exact (fun k h=>by have:=HZ.1;have:=SW.1;omega))
    (case bS=>exact HB.1.size)
    (case bL=>have:=FL.1.1;have h2:=List.length_take_le i x.f3;rw [←HX.1] at h2;omega)
    intro vb wb ho hb hg hat
    have BA_:=zz (zK BA.1 hg (fun e=>by have h2:=OKV.1 _ e.symm;omega))
    have BR_:=zz (zK BR.1 hg (fun e=>by have h2:=OKV.1 _ e.symm;omega))
    have BO_:=zz (zK BO.1 hg (fun e=>by have h2:=OKV.1 _ e.symm;omega))
    have HO:=zz ho
    have HB_:=zz hb
    obtain ⟨Ab,cb,rfl⟩:=Kd.S_slice ho
    clear BA BR BO HB ho hb hg hat
    refine hK.out _ _ ⟨BA_.1,BO_.1,((HB_.1).cell (z0a w _ Z0.1)).trans Z0.1,((HB_.1).cell (z0a w _ Z1.1)).trans Z1.1⟩ (fun hHeld=> ?_)
    clear hK K
    refine zha (a':= ?_) zq3 ?_
    (refine zpa (v:= ?_) (a':= ?_) rfl rfl (Or.inl ⟨zq22,zq12⟩) zq3 ?_)
    obtain ⟨nn,hnn⟩:∃m,m=(xs++[el]).length:=⟨_,rfl⟩
    simp only [←hnn] at HO ⊢
    refine zdc rfl rfl zq22 38 _ _ rfl (w.heap.size+1+1) 3 (.slice Ab nn cb) (.slice Av xs.length cv) [.int .i64 x.f0,.int .i64 x.f1,.int .i64 x.f2] [] rfl rfl BO_.1 zq22 rfl zq13 rfl rfl (fun W hp hn=> ?_)
    have OKB:=HO.1.choose_spec.1
    have HZ_:=zP BO_.1
    have B1:=zz (zTa BA_.1 hp zq9)
    have B2:=zz (zTa BR_.1 hp zq9)
    have B3:=zz hn
    have H1:=zz (hp.below w zq9 HB_.1)
    have H2:=zz (putS HO.1 hp (fun k hk h=>by omega))
    have H3:=zz (show w.heap.size+1+1<W.heap.size from zP hn)
    clear BA_ BR_ BO_ HB_ HO hp hn OKB
    refine zZa ?_
    clear hHeld
    go_wp2
    go_roundg k1
    case measure=>omega
    case rel=>exact ⟨i+1,_,by rw [show wrap64 ((i:Int)+1)=((i+1:Nat):Int) by unfold wrap64;have:=FL.1.1;omega],⟨zq115⟩,⟨zq9⟩,⟨by rw [List.take_succ_eq_append_getElem hlt,←HE.1,←HX.1];exact H2.1⟩,B1,B2,B3,H1,H3⟩
  ·have c1:decide ((i:Int)<(x.f3.length:Int))=false:=z7 zq9
   have hi:i=x.f3.length:=by have:=HI.1;omega
   have hx:=HX.1
   rw [hi,List.take_length] at hx
   subst hx
   clear HX
   go_wp2_with (first|((with_reducible refine zd (N:=35) rfl ?_);refine zf rfl 40 _ rfl (w.heap.size+1+1) 0 [] [.int .i64 x.f0,.int .i64 x.f1,.int .i64 x.f2,.slice Av x.f3.length cv] [] _ rfl BO.1 rfl rfl Tryz.underlying40 rfl zq13 ?_)|((with_reducible refine zm (t:=40) (p:=2) rfl ?_);refine zn rfl 40 _ _ rfl rfl (w.heap.size+1) 0 [.int .i64 x.f0,.int .i64 x.f1,.int .i64 x.f2,.slice Av x.f3.length cv] [] [.int .i64 0,.int .i64 0,.int .i64 0,.slice none 0 0] [] rfl rfl BR.1 rfl rfl rfl zq13 (fun v hv=>by simp only [List.mem_cons,List.not_mem_nil,or_false] at hv;rcases hv with rfl|rfl|rfl|rfl<;>rfl) ?_;intro W3 hp hn;have BR_:=zz hn;have HP:=zz hp;clear BR hp hn))
   have hz:=HZ.1
   have hb:=HP.1.below w zq9 HB.1
   refine bodyPost_ret (zya rfl _ _ (w.heap.size+1) 40 _ _ _ rfl BR_.1 Tryz.underlying40 rfl zq13) rfl ?_
   have hS:=putS HO.1 HP.1 (fun k hk h=>by omega)
   exact ⟨[.int .i64 x.f0,.int .i64 x.f1,.int .i64 x.f2]++[.slice Av x.f3.length cv],rfl,zlb _ _ _ x (Kd.S_mono (Kd.S_bound hS) (fun k hk=>⟨hk.2.1,hk.2.2.1⟩)),hb⟩
end Go.Proofs.YtonhdiemjgdcnaaGreat.PFnExactGivePage
