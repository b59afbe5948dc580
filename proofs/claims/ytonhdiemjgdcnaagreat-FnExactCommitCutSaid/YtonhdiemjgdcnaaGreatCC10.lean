import Derived.Test.YtonhdiemjgdcnaaGreatCC9
set_option maxHeartbeats 64000000
set_option maxRecDepth 100000
set_option linter.unusedVariables false
set_option linter.unusedSimpArgs false
namespace Go.Proofs.YtonhdiemjgdcnaaGreatW.PrintWords
open Go.RowKit
theorem zCb (a:Addr) (n:Nat):(a.add n).block=a.block:=by unfold Addr.add;split<;>rfl
namespace Kd
theorem at_bool {w:World} {A:Option Addr} {n:Nat} {xs:List Bool} (h:Kd.bool.C w A n xs) (i:Int) (h0:0≤i) (h1:i<n):∃ad,A=some ad∧w.cell? (ad.add i.toNat)=some (.bool (zLa false xs i)):=
 ReadsOf.at_ (reads_of_C (enc:=Value.bool) (d:=false) (h1:=fun _=>rfl) h) i h0 h1
end Kd
end Go.Proofs.YtonhdiemjgdcnaaGreatW.PrintWords
namespace Go.Proofs.YtonhdiemjgdcnaaGreat.PFnExactGivePage
open Go.RowKit Go.Proofs.YtonhdiemjgdcnaaGreatW.PrintWords Go.Proofs.YtonhdiemjgdcnaaGreatW.PrintLast Go.Proofs.YtonhdiemjgdcnaaGreatW.PrintMore
attribute [local go_sem] zba zga zoa zna zW zV zfa zea   -- for this text's walks alone
theorem info4:(Tryz.prog.info? 4).map (fun i=>(i.zero,i.size,i.bytes))=some (some (.bool false),1,1):=by kernel_rfl
mutual
def spec_FallDisk.l0:Nat→List Bool→Int→Int→List ByteArray→List (S110)→List ByteArray→Option (List ByteArray×(List (S110)))
 |0,_,_,_,_,_,_=>none
 |k+1,x1,x2,x8,x402000,x402001,x417000=>if x8<(x402001.length:Int) then (if x8≥(x1.length:Int) then (spec_FallDisk.j1 k x1 x2 x8 true x402000 x402001 x417000) else (if 0≤x8 then (if x8<(x1.length:Int) then (spec_FallDisk.j1 k x1 x2 x8 (!(zLa false x1 x8)) x402000 x402001 x417000) else (none)) else (none))) else (some (x417000,([]:List (S110))))
def spec_FallDisk.j1:Nat→List Bool→Int→Int→Bool→List ByteArray→List (S110)→List ByteArray→Option (List ByteArray×(List (S110)))
 |0,_,_,_,_,_,_,_=>none
 |k+1,x1,x2,x8,x37,x402000,x402001,x417000=>if x37=true then (spec_FallDisk.l0 k x1 x2 (wrap64 (x8+1)) x402000 x402001 x417000) else (if 0≤x8 then (if x8<(x402001.length:Int) then (if x8=x2 then (if 0≤(wrap64 ((((zn x402001 x8).f1).size:Int)/2)) then (if (wrap64 ((((zn x402001 x8).f1).size:Int)/2))≤(((zn x402001 x8).f1).size:Int) then (if 0≤((zn x402001 x8).f0) then (if ((zn x402001 x8).f0)<(x417000.length:Int) then (spec_FallDisk.l0 k x1 x2 (wrap64 (x8+1)) x402000 x402001 (x417000.set (((zn x402001 x8).f0):Int).toNat (((zn x402001 x8).f1).extract 0 ((wrap64 ((((zn x402001 x8).f1).size:Int)/2)):Int).toNat))) else (none)) else (none)) else (none)) else (none)) else (if 0≤((zn x402001 x8).f0) then (if ((zn x402001 x8).f0)<(x417000.length:Int) then (spec_FallDisk.l0 k x1 x2 (wrap64 (x8+1)) x402000 x402001 (x417000.set (((zn x402001 x8).f0):Int).toNat ((zn x402001 x8).f1))) else (none)) else (none))) else (none)) else (none))
end
def spec_FallDisk.f (k:Nat) (l0_0:List ByteArray) (l0_1:List (S110)) (l1:List Bool) (a2:Int):Option (List ByteArray×(List (S110))):=(spec_DiskOk.f k l0_0 l0_1).bind fun t403=>(if t403=true then ((some (([]:List ByteArray):List ByteArray)).bind fun y410=>(if y410.length+l0_0.length<8796093022208 then (spec_FallDisk.l0 k l1 a2 0 l0_0 l0_1 (y410++l0_0)) else (none))) else ((spec_l03Copy.f l0_0 l0_1).bind fun bt404=>(some (bt404.1,bt404.2))))
def spec_FallDisk.T11:Bool×List (List Nat×List Nat):=(true,[([],[]),([0],[0]),([],[]),([2],[2]),([],[]),([3,4],[3,4]),([5],[5]),([6],[6]),([],[]),([1,7,0,1,2,3,4,5,6,7,8],[1,7]),([9,8,0,1,2,3,4,5,6,7,8],[8,9])])
def spec_FallDisk.B11:List Nat:=[0,1,0,4,0,28,60,124,0,511,1023]
theorem spec_FallDisk.tab11:rtab .any (zkb Tryz.f59 11)=spec_FallDisk.T11:=by kernel_rfl
theorem spec_FallDisk.bits11:zGa spec_FallDisk.T11.2 spec_FallDisk.B11=true:=by kernel_rfl
theorem spec_FallDisk.calls (k:Nat) (A0_0:Option Addr) (c0_0:Nat) (l0_0:List ByteArray) (A0_1:Option Addr) (c0_1:Nat) (l0_1:List (S110)) (A1:Option Addr) (c1:Nat) (l1:List Bool) (a2:Int) (r1:List ByteArray) (r2:List (S110)) (w:World) (hr0_0:Kd.C Kd.string w A0_0 l0_0.length l0_0) (hc0_0:l0_0.length≤c0_0) (hr0_1:Kd.C k110 w A0_1 l0_1.length l0_1) (hc0_1:l0_1.length≤c0_1) (hr1:Kd.C Kd.bool w A1 l1.length l1) (hc1:l1.length≤c1) (h:spec_FallDisk.f k l0_0 l0_1 l1 a2=some (r1,r2)):
  Calls Tryz.prog 59 #[.agg #[.slice A0_0 l0_0.length c0_0,.slice A0_1 l0_1.length c0_1],.slice A1 l1.length c1,.int .i64 a2] w fun e w'=>∃v0_ v1_:Value,e= .returned (.agg #[v0_,v1_])∧Kd.R Kd.string 9 w' w.heap.size (fun _=>True) v0_ r1∧Kd.R k110 110 w' w.heap.size (fun _=>True) v1_ r2∧Below w.heap.size w w':=by
 have hu37:=Tryz.underlying37
 have HR0_0:=zz hr0_0
 have HC0_0:=zz hc0_0
 clear hr0_0 hc0_0
 have HR0_1:=zz hr0_1
 have HC0_1:=zz hc0_1
 clear hr0_1 hc0_1
 have HR1:=zz hr1
 have HC1:=zz hc1
 clear hr1 hc1
 have HB:=zz (Below.refl w.heap.size w)
 have H:((spec_DiskOk.f k l0_0 l0_1).bind fun t403=>(if t403=true then ((some (([]:List ByteArray):List ByteArray)).bind fun y410=>(if y410.length+l0_0.length<8796093022208 then (spec_FallDisk.l0 k l1 a2 0 l0_0 l0_1 (y410++l0_0)) else (none))) else ((spec_l03Copy.f l0_0 l0_1).bind fun bt404=>(some (bt404.1,bt404.2)))))=some (r1,r2):=h
 clear h
 replace H:=Option.bind_eq_some_iff.mp H
 obtain ⟨t403,A40,H⟩:=H
 replace H:(if t403=true then ((some (([]:List ByteArray):List ByteArray)).bind fun y410=>(if y410.length+l0_0.length<8796093022208 then (spec_FallDisk.l0 k l1 a2 0 l0_0 l0_1 (y410++l0_0)) else (none))) else ((spec_l03Copy.f l0_0 l0_1).bind fun bt404=>(some (bt404.1,bt404.2))))=some (r1,r2):=H
 have A4:=zz A40
 clear A40
 by_cases c5:t403=true
 ·subst c5
  have H1:((some (([]:List ByteArray):List ByteArray)).bind fun y410=>(if y410.length+l0_0.length<8796093022208 then (spec_FallDisk.l0 k l1 a2 0 l0_0 l0_1 (y410++l0_0)) else (none)))=some (r1,r2):=by rw [if_pos rfl] at H;exact H
  clear H
  have H:=H1
  clear H1
  obtain ⟨y410,hy410⟩:∃y_:List ByteArray,y_=(([]:List ByteArray)):=⟨_,rfl⟩
  replace H:(if y410.length+l0_0.length<8796093022208 then (spec_FallDisk.l0 k l1 a2 0 l0_0 l0_1 (y410++l0_0)) else (none))=some (r1,r2):=by first|(rw [hy410];with_reducible exact H)|(have H2_:=(Option.bind_some _ _).symm.trans H;rw [hy410];with_reducible exact H2_)|(have H2_:=(Option.bind_some _ _).symm.trans H;with_reducible exact H2_)|with_reducible exact H|(rw [hy410];exact H)|exact H
  have Ny410:=zz hy410
  clear hy410
  by_cases c6:y410.length+l0_0.length<8796093022208
  ·rw [if_pos c6] at H
   have LMc6:=zz c6
   clear c6
   obtain ⟨y413,hy413⟩:∃y_:List ByteArray,y_=(y410++l0_0):=⟨_,rfl⟩
   replace H:(spec_FallDisk.l0 k l1 a2 0 l0_0 l0_1 y413)=some (r1,r2):=by first|(rw [hy413];with_reducible exact H)|(have H2_:=(Option.bind_some _ _).symm.trans H;rw [hy413];with_reducible exact H2_)|(have H2_:=(Option.bind_some _ _).symm.trans H;with_reducible exact H2_)|with_reducible exact H|(rw [hy413];exact H)|exact H
   have Ny413:=zz hy413
   clear hy413
   have H':=zz H
   clear H
   go_enter Tryz.func59,Tryz.ntmps59
   go_wp2_with (first|((with_reducible refine zv (N:=3) rfl ?_);refine zE ?hg (N:=3) ?hd (cs:= #[.slice A0_0 l0_0.length c0_0,.slice A0_1 l0_1.length c0_1]) (t:=37) ?hr ?_;(case hd=>rfl);(case hg=>rfl);(case hr=>first|(go_simp;done)|(go_simp;rfl));intro gb401 hg w7 hbox hb;have n0_:=zz (zk zq1 hb);have n1_:=zz (hbox);have n2_:=zz ((by rw [hg];exact (zi zq1):w.heap.size≤gb401));have n3_:=zz ((by rw [hg];exact (zi zq1):w.heap.size≤gb401));clear HB;have HB:=n0_;have BK401:=n1_;have GW401:=n2_;have GE401:=n3_;clear n0_ n1_ n2_ n3_;clear hb hbox hg)|((with_reducible refine zv (N:=6) rfl ?_);refine zE ?hg (N:=6) ?hd (cs:= #[.slice none 0 0,.slice none 0 0]) (t:=37) ?hr ?_;(case hd=>rfl);(case hg=>rfl);(case hr=>first|(go_simp;done)|(go_simp;rfl));intro gb402 hg w8 hbox hb;have n0_:=zz (zu (g:=gb401) (o:= .cells #[.slice A0_0 l0_0.length c0_0,.slice A0_1 l0_1.length c0_1] 37 (0,0)) (zq0 BK401.out) hb);have n1_:=zz (zk (zq3 GE401.out) hb);have n2_:=zz (hbox);have n3_:=zz ((by rw [hg];exact (zi (zq3 GE401.out)):w.heap.size≤gb402));have n4_:=zz ((by rw [hg];exact (zi (zq3 GE401.out)):w.heap.size≤gb402));have n5_:=zz ((by rw [hg];exact Nat.ne_of_lt (zG (g:=gb401) (o:= .cells #[.slice A0_0 l0_0.length c0_0,.slice A0_1 l0_1.length c0_1] 37 (0,0)) (zq0 BK401.out)):gb401≠gb402));have n6_:=zz ((by rw [hg];exact Nat.ne_of_gt (zG (g:=gb401) (o:= .cells #[.slice A0_0 l0_0.length c0_0,.slice A0_1 l0_1.length c0_1] 37 (0,0)) (zq0 BK401.out)):gb402≠gb401));clear BK401;clear HB;have BK401:=n0_;have HB:=n1_;have BK402:=n2_;have GW402:=n3_;have GE402:=n4_;have NB401_402:=n5_;have NB402_401:=n6_;clear n0_ n1_ n2_ n3_ n4_ n5_ n6_;clear hb hbox hg;have hnb9:=NB401_402.out;have hnc9:=NB402_401.out;have hcz10_0:w8.cell? ⟨gb401,0,none⟩=some (.slice A0_0 l0_0.length c0_0):=(ze BK401.out 0).trans rfl;have hcz10_1:w8.cell? ⟨gb401,1,none⟩=some (.slice A0_1 l0_1.length c0_1):=(ze BK401.out 1).trans rfl;have hfz10_0:=zd BK401.out 0;have hfz10_1:=zd BK401.out 1)|((with_reducible refine zB (f:=83) rfl ?_);refine zO (some 11) rfl rfl Tryz.func83 zq7 rfl #[.agg #[.slice A0_0 l0_0.length c0_0,.slice A0_1 l0_1.length c0_1]] rfl zq4 ?_;(with_reducible refine (spec_DiskOk.calls k _ _ l0_0 _ _ l0_1 true _ ?side1 ?side2 ?side3 ?side4 A4.out).mono ?_);(case side1=>repeat (first|exact (Kd.C_below HR0_0.out HB.out)|(with_reducible refine Kd.C_alloc ?_ _)|(with_reducible refine Kd.C_drewN ?_ _)|(with_reducible refine Kd.C_drew ?_)));(case side2=>exact HC0_0.out);(case side3=>repeat (first|exact (Kd.C_below HR0_1.out HB.out)|(with_reducible refine Kd.C_alloc ?_ _)|(with_reducible refine Kd.C_drewN ?_ _)|(with_reducible refine Kd.C_drew ?_)));(case side4=>exact HC0_1.out);rintro e w11 ⟨rfl,hb⟩;refine ⟨_,rfl,?_⟩;have n0_:=zz (zu (g:=gb401) (o:= .cells #[.slice A0_0 l0_0.length c0_0,.slice A0_1 l0_1.length c0_1] 37 (0,0)) (zq0 BK401.out) hb);have n1_:=zz (zu (g:=gb402) (o:= .cells #[.slice none 0 0,.slice none 0 0] 37 (0,0)) (zq0 BK402.out) hb);have n2_:=zz (zk (zq2 GE401.out GE402.out) hb);clear BK401;clear BK402;clear HB;have BK401:=n0_;have BK402:=n1_;have HB:=n2_;clear n0_ n1_ n2_;(try clear hb);(try clear hb2);(try clear hk);(try clear hi))|((with_reducible refine zv (N:=15) rfl ?_);refine Kd.R_lit Kd.string _ 9 ?hg (N:=15) ?hd (xs:=([]:List ByteArray)) (inner:=[]) (ok:=fun _=>True) (okp:=fun _=>True) ?hr ?hp (fun _ hk=>hk) trivial (Below.refl _ _) (Nat.le_refl _) zq15 ?_;(case hd=>rfl);(case hg=>rfl);(case hr=>first|(go_simp;done)|(go_simp;rfl));(case hp=>exact (Reps.none _ _));intro v411 w12 ho13 hb hg_ hnew_;clear hg_ hnew_;(first|rw [←Ny410.out] at ho13|(simp only [Int.reduceToNat] at ho13;rw [←Ny410.out] at ho13));have n0_:=zz (Kd.R_lower ho13 (zi (zq2 GE401.out GE402.out)));have n1_:=zz (zu (g:=gb401) (o:= .cells #[.slice A0_0 l0_0.length c0_0,.slice A0_1 l0_1.length c0_1] 37 (0,0)) (zq0 BK401.out) hb);have n2_:=zz (zu (g:=gb402) (o:= .cells #[.slice none 0 0,.slice none 0 0] 37 (0,0)) (zq0 BK402.out) hb);have n3_:=zz (zk (zq2 GE401.out GE402.out) hb);clear BK401;clear BK402;clear HB;have HO412:=n0_;have BK401:=n1_;have BK402:=n2_;have HB:=n3_;clear n0_ n1_ n2_ n3_;clear hb ho13;have hcz14_0:w12.cell? ⟨gb401,0,none⟩=some (.slice A0_0 l0_0.length c0_0):=(ze BK401.out 0).trans rfl;have hcz14_1:w12.cell? ⟨gb401,1,none⟩=some (.slice A0_1 l0_1.length c0_1):=(ze BK401.out 1).trans rfl;have hfz14_0:=zd BK401.out 0;have hfz14_1:=zd BK401.out 1)|((with_reducible refine zQ (b:= .append) (xs:= #[.tmp 15,.tmp 17]) rfl ?_);at_builtin;refine Kd.R_append_rows Kd.string (w0:=w) w.heap.size rfl (.tmp 15) (.tmp 17) 25 9 (.string ⟨#[]⟩) 16 rfl Tryz.underlying25 info9 rfl zq14 zq5 v411 y410 l0_0 _ _ _ (fun _=>True) (fun _=>False) rfl rfl ?aO ?aR (fun _ _ h=>h) (fun _ h=>h.elim) ?aF ?aB ?aS ?aL ?_;(case aR=>repeat (first|exact (Kd.C_below HR0_0.out HB.out)|(with_reducible refine Kd.C_alloc ?_ _)|(with_reducible refine Kd.C_drewN ?_ _)|(with_reducible refine Kd.C_drew ?_)));(case aB=>exact (zq2 GE401.out GE402.out));(case aF=>exact (fun _ _=>trivial));(case aO=>exact (zq9 HO412.out));(case aS=>exact (zi (zq2 GE401.out GE402.out)));(case aL=>have:=LMc6.out;omega);intro v414 w15 ho hb hg hat;rw [←Ny413.out] at ho;have n0_:=zz (zI (g:=gb401) (o:= .cells #[.slice A0_0 l0_0.length c0_0,.slice A0_1 l0_1.length c0_1] 37 (0,0)) (zq0 BK401.out) hg (Kd.R_ne HO412.out BK401.out zq14));have n1_:=zz (zI (g:=gb402) (o:= .cells #[.slice none 0 0,.slice none 0 0] 37 (0,0)) (zq0 BK402.out) hg (Kd.R_ne HO412.out BK402.out zq14));have n2_:=zz (hb);have n3_:=zz (ho);clear BK401;clear BK402;clear HB;clear HO412;have BK401:=n0_;have BK402:=n1_;have HB:=n2_;have HO415:=n3_;clear n0_ n1_ n2_ n3_;clear ho hb hg hat;obtain ⟨Ao16,co16,eo16⟩:=Kd.R_slice HO415.out;subst eo16)|((with_reducible refine zv (N:=7) rfl ?_);refine zE ?hg (N:=7) ?hd (cs:= #[.slice none 0 0,.slice none 0 0]) (t:=37) ?hr ?_;(case hd=>rfl);(case hg=>rfl);(case hr=>first|(go_simp;done)|(go_simp;rfl));intro gb416 hg w17 hbox hb;have n0_:=zz (Kd.R_below (zq9 HO415.out) hb);have n1_:=zz (zu (g:=gb401) (o:= .cells #[.slice A0_0 l0_0.length c0_0,.slice A0_1 l0_1.length c0_1] 37 (0,0)) (zq0 BK401.out) hb);have n2_:=zz (zu (g:=gb402) (o:= .cells #[.slice none 0 0,.slice none 0 0] 37 (0,0)) (zq0 BK402.out) hb);have n3_:=zz (zk (zq2 GE401.out GE402.out) hb);have n4_:=zz (hbox);have n5_:=zz ((by rw [hg];exact (zi (zq2 GE401.out GE402.out)):w.heap.size≤gb416));have n6_:=zz ((by rw [hg];exact (zi (zq2 GE401.out GE402.out)):w.heap.size≤gb416));have n7_:=zz ((by rw [hg];exact Nat.ne_of_lt (zG (g:=gb401) (o:= .cells #[.slice A0_0 l0_0.length c0_0,.slice A0_1 l0_1.length c0_1] 37 (0,0)) (zq0 BK401.out)):gb401≠gb416));have n8_:=zz ((by rw [hg];exact Nat.ne_of_gt (zG (g:=gb401) (o:= .cells #[.slice A0_0 l0_0.length c0_0,.slice A0_1 l0_1.length c0_1] 37 (0,0)) (zq0 BK401.out)):gb416≠gb401));have n9_:=zz ((by rw [hg];exact Nat.ne_of_lt (zG (g:=gb402) (o:= .cells #[.slice none 0 0,.slice none 0 0] 37 (0,0)) (zq0 BK402.out)):gb402≠gb416));have n10_:=zz ((by rw [hg];exact Nat.ne_of_gt (zG (g:=gb402) (o:= .cells #[.slice none 0 0,.slice none 0 0] 37 (0,0)) (zq0 BK402.out)):gb416≠gb402));clear HO415;clear BK401;clear BK402;clear HB;have HO415:=n0_;have BK401:=n1_;have BK402:=n2_;have HB:=n3_;have BK416:=n4_;have GW416:=n5_;have GE416:=n6_;have NB401_416:=n7_;have NB416_401:=n8_;have NB402_416:=n9_;have NB416_402:=n10_;clear n0_ n1_ n2_ n3_ n4_ n5_ n6_ n7_ n8_ n9_ n10_;clear hb hbox hg;have hnb18:=NB416_401.out;have hnc18:=NB401_416.out;have hnb19:=NB416_402.out;have hnc19:=NB402_416.out;have hcz20_0:w17.cell? ⟨gb416,0,none⟩=some (.slice none 0 0):=(ze BK416.out 0).trans rfl;have hcz20_1:w17.cell? ⟨gb416,1,none⟩=some (.slice none 0 0):=(ze BK416.out 1).trans rfl;have hfz20_0:=zd BK416.out 0;have hfz20_1:=zd BK416.out 1))
   go_loopg [8] k (fun kq v8 w'=>∃(x8_1:Int) (x417000_1:List ByteArray) (u417000:Value),v8= .int .i64 x8_1∧Z0 (spec_FallDisk.l0 kq l1 a2 x8_1 l0_0 l0_1 x417000_1=some (r1,r2))∧Z0 (kq≤k)∧Z0 (Kd.R Kd.string 9 w' w.heap.size (fun _=>True) u417000 x417000_1)∧Z0 (w'.heap[gb401]?=some (.cells #[(.slice A0_0 l0_0.length c0_0),(.slice A0_1 l0_1.length c0_1)] 37 (0,0)))∧Z0 (w'.heap[gb402]?=some (.cells #[(.slice none 0 0),(.slice none 0 0)] 37 (0,0)))∧Z0 (w'.heap[gb416]?=some (.cells #[u417000,(.slice none 0 0)] 37 (0,0)))∧Z0 (Below w.heap.size w w'))
   case atStart=>exact ⟨(0),(y413),(.slice Ao16 y413.length co16),zq12,H',⟨Nat.le_refl _⟩,⟨by (with_reducible repeat (first|apply Kd.R_alloc|apply Kd.R_drewN|apply Kd.R_drew));exact Kd.R_mono (Kd.R_far (p:=⟨gb416,1,none⟩) (Kd.R_far (p:=⟨gb416,0,none⟩) (Kd.R_types HO415.out BK416.out zq14) (fun _ hk=>hk.2) (.slice Ao16 y413.length co16)) (fun _ hk=>hk.2) (.slice none 0 0)) (fun _ hk=>trivial)⟩,⟨by (with_reducible repeat (first|refine zj ?_ _|refine zl ?_|refine zh ?_ _));refine zH ?_ NB401_416.out _;(with_reducible repeat (first|refine zj ?_ _|refine zl ?_|refine zh ?_ _));refine zH ?_ NB401_416.out _;(with_reducible repeat (first|refine zj ?_ _|refine zl ?_|refine zh ?_ _));exact BK401.out⟩,⟨by (with_reducible repeat (first|refine zj ?_ _|refine zl ?_|refine zh ?_ _));refine zH ?_ NB402_416.out _;(with_reducible repeat (first|refine zj ?_ _|refine zl ?_|refine zh ?_ _));refine zH ?_ NB402_416.out _;(with_reducible repeat (first|refine zj ?_ _|refine zl ?_|refine zh ?_ _));exact BK402.out⟩,⟨by (with_reducible repeat (first|refine zj ?_ _|refine zl ?_|refine zh ?_ _));refine zL (cs:= #[.slice Ao16 y413.length co16,.slice none 0 0]) ?_ 1 _ rfl;(with_reducible repeat (first|refine zj ?_ _|refine zl ?_|refine zh ?_ _));refine zL (cs:= #[.slice none 0 0,.slice none 0 0]) ?_ 0 _ rfl;(with_reducible repeat (first|refine zj ?_ _|refine zl ?_|refine zh ?_ _));exact BK416.out⟩,⟨by repeat (first|(with_reducible first|exact HB.out|apply zg|apply zf|apply zm|refine zr ?_ GE401.out|refine zr ?_ GE402.out|refine zr ?_ GE416.out)|exact HB.out)⟩⟩
   case round=>
    clear H'
    try clear c1
    try clear c5
    try clear c6
    try clear hcz10_0
    try clear hcz10_1
    try clear hcz14_0
    try clear hcz14_1
    try clear hcz20_0
    try clear hcz20_1
    try clear hfz10_0
    try clear hfz10_1
    try clear hfz14_0
    try clear hfz14_1
    try clear hfz20_0
    try clear hfz20_1
    obtain ⟨x8_1,x417000_1,u417000,rfl,HA,HK1,HO_417000,BK401,BK402,BK416,HB⟩:=hrel
    cases gk with
    |zero=>exact absurd HA.out (by simp [spec_FallDisk.l0])
    |succ k1=>
     have H:=HA.out
     clear HA
     simp only [spec_FallDisk.l0] at H
     by_cases c21:x8_1<(l0_1.length:Int)
     ·rw [if_pos c21] at H
      have c21b0:decide (x8_1<(l0_1.length:Int))=true:=decide_eq_true c21
      clear c21
      have HC22:=zz H
      clear H
      have hnb23:=NB401_402.out
      have hnc23:=NB402_401.out
      have hnb24:=NB401_416.out
      have hnc24:=NB416_401.out
      have hcz25_0:wr.cell? ⟨gb401,0,none⟩=some (.slice A0_0 l0_0.length c0_0):=(ze BK401.out 0).trans rfl
      have hcz25_1:wr.cell? ⟨gb401,1,none⟩=some (.slice A0_1 l0_1.length c0_1):=(ze BK401.out 1).trans rfl
      have hfz25_0:=zd BK401.out 0
      have hfz25_1:=zd BK401.out 1
      go_upto_region 7 with (fail)
      go_cut [37] (fun v37 wc=>∃(kq:Nat) (x37_21:Bool),v37= .bool x37_21∧Z0 (spec_FallDisk.j1 kq l1 a2 x8_1 x37_21 l0_0 l0_1 x417000_1=some (r1,r2))∧Z0 (kq≤k1)∧Z0 (Kd.R Kd.string 9 wc w.heap.size (fun _=>True) u417000 x417000_1)∧Z0 (wc.heap[gb401]?=some (.cells #[(.slice A0_0 l0_0.length c0_0),(.slice A0_1 l0_1.length c0_1)] 37 (0,0)))∧Z0 (wc.heap[gb402]?=some (.cells #[(.slice none 0 0),(.slice none 0 0)] 37 (0,0)))∧Z0 (wc.heap[gb416]?=some (.cells #[u417000,(.slice none 0 0)] 37 (0,0)))∧Z0 (Below w.heap.size w wc))
      case first=>
       have H:=HC22.out
       clear HC22
       by_cases c26:x8_1≥(l1.length:Int)
       ·rw [if_pos c26] at H
        have c26b0:decide ((l1.length:Int)≤x8_1)=true:=decide_eq_true c26
        clear c26
        (first|rw [c26b0]|(simp only [zA,zF];rw [c26b0])|skip)
        have H':=zz H
        clear H
        go_wp2
        go_meet
        case rel=>exact ⟨_,(true),zq12,H',⟨by have:=HK1.out;first|omega|exact Nat.le_refl _⟩,⟨by (with_reducible repeat (first|apply Kd.R_alloc|apply Kd.R_drewN|apply Kd.R_drew));exact HO_417000.out⟩,⟨by (with_reducible repeat (first|refine zj ?_ _|refine zl ?_|refine zh ?_ _));exact BK401.out⟩,⟨by (with_reducible repeat (first|refine zj ?_ _|refine zl ?_|refine zh ?_ _));exact BK402.out⟩,⟨by (with_reducible repeat (first|refine zj ?_ _|refine zl ?_|refine zh ?_ _));exact BK416.out⟩,⟨by repeat (first|(with_reducible first|exact HB.out|apply zg|apply zf|apply zm|refine zr ?_ GE401.out|refine zr ?_ GE402.out|refine zr ?_ GE416.out)|exact HB.out)⟩⟩
       ·rw [if_neg c26] at H
        have c26b0:decide ((l1.length:Int)≤x8_1)=false:=decide_eq_false c26
        clear c26
        (first|rw [c26b0]|(simp only [zA,zF];rw [c26b0])|skip)
        by_cases c27:0≤x8_1
        ·rw [if_pos c27] at H
         have c27b0:decide (0≤x8_1)=true:=decide_eq_true c27
         clear c27
         by_cases c28:x8_1<(l1.length:Int)
         ·rw [if_pos c28] at H
          have c28b0:decide (x8_1<(l1.length:Int))=true:=decide_eq_true c28
          clear c28
          have H':=zz H
          clear H
          have p417:0≤(x8_1:Int):=of_decide_eq_true zq11
          have q417:x8_1<(l1.length:Int):=of_decide_eq_true zq11
          obtain ⟨ad417,e417,hx417_0⟩:=Kd.at_bool HR1.out x8_1 p417 q417
          cases e417
          replace hx417_0:=(HB.out.cell (World.block_lt_of_cell? w _ hx417_0)).trans hx417_0
          replace p417:=eq_true p417
          replace q417:=eq_true q417
          go_wp2
          go_meet
          case rel=>exact ⟨_,(!(zLa false l1 x8_1)),zq12,H',⟨by have:=HK1.out;first|omega|exact Nat.le_refl _⟩,⟨by (with_reducible repeat (first|apply Kd.R_alloc|apply Kd.R_drewN|apply Kd.R_drew));exact HO_417000.out⟩,⟨by (with_reducible repeat (first|refine zj ?_ _|refine zl ?_|refine zh ?_ _));exact BK401.out⟩,⟨by (with_reducible repeat (first|refine zj ?_ _|refine zl ?_|refine zh ?_ _));exact BK402.out⟩,⟨by (with_reducible repeat (first|refine zj ?_ _|refine zl ?_|refine zh ?_ _));exact BK416.out⟩,⟨by repeat (first|(with_reducible first|exact HB.out|apply zg|apply zf|apply zm|refine zr ?_ GE401.out|refine zr ?_ GE402.out|refine zr ?_ GE416.out)|exact HB.out)⟩⟩
         ·rw [if_neg c28] at H
          exact absurd H zq15
        ·rw [if_neg c27] at H
         exact absurd H zq15
      case rest=>
       clear HC22
       try clear c1
       try clear c5
       try clear c6
       try clear c21
       try clear c21b0
       try clear c26
       try clear c26b0
       try clear c27
       try clear c27b0
       try clear c28
       try clear c28b0
       try clear hcz10_0
       try clear hcz10_1
       try clear hcz14_0
       try clear hcz14_1
       try clear hcz20_0
       try clear hcz20_1
       try clear hcz25_0
       try clear hcz25_1
       try clear hfz10_0
       try clear hfz10_1
       try clear hfz14_0
       try clear hfz14_1
       try clear hfz20_0
       try clear hfz20_1
       try clear hfz25_0
       try clear hfz25_1
       try clear hx417_0
       try clear p417
       try clear q417
       obtain ⟨kq,x37_21,rfl,HA,HJ21,HO_417000,BK401,BK402,BK416,HB⟩:=hcut
       cases kq with
       |zero=>exact absurd HA.out (by simp [spec_FallDisk.j1])
       |succ kj21=>
        have H:=HA.out
        clear HA
        simp only [spec_FallDisk.j1] at H
        by_cases c29:x37_21=true
        ·subst c29
         have H1:(spec_FallDisk.l0 kj21 l1 a2 (wrap64 (x8_1+1)) l0_0 l0_1 x417000_1)=some (r1,r2):=by rw [if_pos rfl] at H;exact H
         clear H
         have H:=H1
         clear H1
         have H':=zz H
         clear H
         go_wp2
         go_roundg kj21
         case measure=>have:=HK1.out;have:=HJ21.out;omega
         case rel=>exact ⟨(wrap64 (x8_1+1)),(x417000_1),(u417000),zq12,H',⟨by have:=HK1.out;have:=HJ21.out;omega⟩,⟨by (with_reducible repeat (first|apply Kd.R_alloc|apply Kd.R_drewN|apply Kd.R_drew));exact HO_417000.out⟩,⟨by (with_reducible repeat (first|refine zj ?_ _|refine zl ?_|refine zh ?_ _));exact BK401.out⟩,⟨by (with_reducible repeat (first|refine zj ?_ _|refine zl ?_|refine zh ?_ _));exact BK402.out⟩,⟨by (with_reducible repeat (first|refine zj ?_ _|refine zl ?_|refine zh ?_ _));exact BK416.out⟩,⟨by repeat (first|(with_reducible first|exact HB.out|apply zg|apply zf|apply zm|refine zr ?_ GE401.out|refine zr ?_ GE402.out|refine zr ?_ GE416.out)|exact HB.out)⟩⟩
        ·replace c29:=Bool.eq_false_iff.mpr c29
         subst c29
         have H1:(if 0≤x8_1 then (if x8_1<(l0_1.length:Int) then (if x8_1=a2 then (if 0≤(wrap64 ((((zn l0_1 x8_1).f1).size:Int)/2)) then (if (wrap64 ((((zn l0_1 x8_1).f1).size:Int)/2))≤(((zn l0_1 x8_1).f1).size:Int) then (if 0≤((zn l0_1 x8_1).f0) then (if ((zn l0_1 x8_1).f0)<(x417000_1.length:Int) then (spec_FallDisk.l0 kj21 l1 a2 (wrap64 (x8_1+1)) l0_0 l0_1 (x417000_1.set (((zn l0_1 x8_1).f0):Int).toNat (((zn l0_1 x8_1).f1).extract 0 ((wrap64 ((((zn l0_1 x8_1).f1).size:Int)/2)):Int).toNat))) else (none)) else (none)) else (none)) else (none)) else (if 0≤((zn l0_1 x8_1).f0) then (if ((zn l0_1 x8_1).f0)<(x417000_1.length:Int) then (spec_FallDisk.l0 kj21 l1 a2 (wrap64 (x8_1+1)) l0_0 l0_1 (x417000_1.set (((zn l0_1 x8_1).f0):Int).toNat ((zn l0_1 x8_1).f1))) else (none)) else (none))) else (none)) else (none))=some (r1,r2):=by rw [if_neg (show ¬(false=true) by decide)] at H;exact H
         clear H
         have H:=H1
         clear H1
         by_cases c30:0≤x8_1
         ·rw [if_pos c30] at H
          have c30b0:decide (0≤x8_1)=true:=decide_eq_true c30
          clear c30
          by_cases c31:x8_1<(l0_1.length:Int)
          ·rw [if_pos c31] at H
           have c31b0:decide (x8_1<(l0_1.length:Int))=true:=decide_eq_true c31
           clear c31
           by_cases c32:x8_1=a2
           ·rw [if_pos c32] at H
            have c32b0:(x8_1==a2)=true:=beq_iff_eq.mpr c32
            have c32b1:(x8_1 !=a2)=false:=bne_eq_false_iff_eq.mpr c32
            clear c32
            obtain ⟨ji33,hji33⟩:∃j_:Int,(wrap64 ((((zn l0_1 x8_1).f1).size:Int)/2))=j_:=⟨_,rfl⟩
            replace H:(if 0≤(ji33) then (if (ji33)≤(((zn l0_1 x8_1).f1).size:Int) then (if 0≤((zn l0_1 x8_1).f0) then (if ((zn l0_1 x8_1).f0)<(x417000_1.length:Int) then (spec_FallDisk.l0 kj21 l1 a2 (wrap64 (x8_1+1)) l0_0 l0_1 (x417000_1.set (((zn l0_1 x8_1).f0):Int).toNat (((zn l0_1 x8_1).f1).extract 0 ((ji33):Int).toNat))) else (none)) else (none)) else (none)) else (none))=some (r1,r2):=by first|(rw [hji33] at H;exact H)|(simp only [hji33] at H ⊢;exact H)
            have hji33w:(IntKind.i64.wrap ((((zn l0_1 x8_1).f1).size:Int)/2))=ji33:=(zA _).trans hji33
            by_cases c34:0≤(ji33)
            ·rw [if_pos c34] at H
             have c34b0:=eq_true c34
             have c34b1:decide (0≤(ji33))=true:=decide_eq_true c34
             clear c34
             by_cases c35:(ji33)≤(((zn l0_1 x8_1).f1).size:Int)
             ·rw [if_pos c35] at H
              have c35b0:=eq_true c35
              have c35b1:decide ((ji33)≤(((zn l0_1 x8_1).f1).size:Int))=true:=decide_eq_true c35
              clear c35
              by_cases c36:0≤((zn l0_1 x8_1).f0)
              ·rw [if_pos c36] at H
               have c36b0:decide (0≤((zn l0_1 x8_1).f0))=true:=decide_eq_true c36
               clear c36
               by_cases c37:((zn l0_1 x8_1).f0)<(x417000_1.length:Int)
               ·rw [if_pos c37] at H
                have c37b0:decide (((zn l0_1 x8_1).f0)<(x417000_1.length:Int))=true:=decide_eq_true c37
                clear c37
                obtain ⟨y420,hy420⟩:∃y_:List ByteArray,y_=(x417000_1.set (((zn l0_1 x8_1).f0):Int).toNat (((zn l0_1 x8_1).f1).extract 0 ((ji33):Int).toNat)):=⟨_,rfl⟩
                replace H:(spec_FallDisk.l0 kj21 l1 a2 (wrap64 (x8_1+1)) l0_0 l0_1 y420)=some (r1,r2):=by first|(rw [hy420];with_reducible exact H)|(have H2_:=(Option.bind_some _ _).symm.trans H;rw [hy420];with_reducible exact H2_)|(have H2_:=(Option.bind_some _ _).symm.trans H;with_reducible exact H2_)|with_reducible exact H|(rw [hy420];exact H)|exact H
                have Ny420:=zz hy420
                clear hy420
                have H':=zz H
                clear H
                have hnb39:=NB401_402.out
                have hnc39:=NB402_401.out
                have hnb40:=NB401_416.out
                have hnc40:=NB416_401.out
                have hcz41_0:wc.cell? ⟨gb401,0,none⟩=some (.slice A0_0 l0_0.length c0_0):=(ze BK401.out 0).trans rfl
                have hcz41_1:wc.cell? ⟨gb401,1,none⟩=some (.slice A0_1 l0_1.length c0_1):=(ze BK401.out 1).trans rfl
                have hfz41_0:=zd BK401.out 0
                have hfz41_1:=zd BK401.out 1
                have p418:0≤(x8_1:Int):=of_decide_eq_true zq11
                have q418:x8_1<(l0_1.length:Int):=of_decide_eq_true zq11
                obtain ⟨ad418,e418,hx418_0,hx418_1⟩:=zla HR0_1.out x8_1 p418 q418
                cases e418
                replace hx418_0:=(HB.out.cell (World.block_lt_of_cell? w _ hx418_0)).trans hx418_0
                replace hx418_1:=(HB.out.cell (World.block_lt_of_cell? w _ hx418_1)).trans hx418_1
                replace p418:=eq_true p418
                replace q418:=eq_true q418
                try go_wp2
                have n0_:=zz (Kd.R_drew HO_417000.out)
                have n1_:=zz (zl BK401.out)
                have n2_:=zz (zl BK402.out)
                have n3_:=zz (zl BK416.out)
                have n4_:=zz (zm HB.out)
                clear HO_417000
                clear BK401
                clear BK402
                clear BK416
                clear HB
                have HO_417000:=n0_
                have BK401:=n1_
                have BK402:=n2_
                have BK416:=n3_
                have HB:=n4_
                clear n0_ n1_ n2_ n3_ n4_
                have p419:0≤(x8_1:Int):=of_decide_eq_true zq11
                have q419:x8_1<(l0_1.length:Int):=of_decide_eq_true zq11
                obtain ⟨ad419,e419,hx419_0,hx419_1⟩:=zla HR0_1.out x8_1 p419 q419
                have hw419_1:=hx419_1
                have hw419_0:=hx419_0
                obtain rfl:ad418=ad419:=(by injection e419)
                replace hx419_0:=(HB.out.cell (World.block_lt_of_cell? w _ hx419_0)).trans hx419_0
                replace hx419_1:=(HB.out.cell (World.block_lt_of_cell? w _ hx419_1)).trans hx419_1
                replace p419:=eq_true p419
                replace q419:=eq_true q419
                have p38:0≤(((zn l0_1 x8_1).f0):Int):=of_decide_eq_true zq11
                have q38:(((zn l0_1 x8_1).f0):Int)<((x417000_1.length:Int):Int):=of_decide_eq_true zq11
                obtain ⟨go38,co38,eo38,gb38,gl38,cl38,HG38⟩:=Kd.R_form HO_417000.out zq5
                (first|cases eo38|(injection eo38 with ea_ en_ ec_;(first|subst ea_|(injection ea_ with ea_;subst ea_));subst ec_;clear en_))
                have GB38:=zz gb38
                have GG38:=zz HG38
                clear gb38 gl38 HG38
                obtain ⟨hx38_0,hf38_0⟩:=Kd.R_celln (⟨#[]⟩:ByteArray) HO_417000.out (((zn l0_1 x8_1).f0):Int) p38 q38
                replace p38:=eq_true p38
                replace q38:=eq_true q38
                have HP43:=Kd.R_putn HO_417000.out (((zn l0_1 x8_1).f0):Int) (((zn l0_1 x8_1).f1).extract 0 ((ji33):Int).toNat)
                rw [←Ny420.out] at HP43
                have HQ43:=zz HP43
                clear HP43
                refine zBb (n:=11) (S:=fun w'=>w'.cell? ⟨gb416,0,none⟩=some (.slice (some ⟨go38,0,none⟩) x417000_1.length co38)∧w'.cell? ⟨gb416,1,none⟩=some (.slice none 0 0)∧w'.cell? ⟨gb401,0,none⟩=some (.slice A0_0 l0_0.length c0_0)∧w'.cell? ⟨gb401,1,none⟩=some (.slice (some ad418) l0_1.length c0_1)∧w'.cell? (ad418.add ((x8_1).toNat*2))=some (.int .i64 ((zn l0_1 x8_1).f0))∧w'.cell? ⟨(ad418.add ((x8_1).toNat*2)).block,(ad418.add ((x8_1).toNat*2)).off+1,none⟩=some (.string ((zn l0_1 x8_1).f1))) (ds:=[10]) #[false,false,false,false,false,false,false,false,false,false,false] zq7 rfl rfl ⟨(ze BK416.out 0).trans rfl,(ze BK416.out 1).trans rfl,(ze BK401.out 0).trans rfl,(ze BK401.out 1).trans rfl,((HB.out.cell (World.block_lt_of_cell? w _ hw419_0)).trans hw419_0),((HB.out.cell (World.block_lt_of_cell? w _ hw419_1)).trans hw419_1)⟩ (fun hHeld=> ?_);refine zJa spec_FallDisk.tab11 spec_FallDisk.bits11 (fun HT_ HW_=> ?_)
                generalize wc.drew=w42 at HO_417000 BK401 BK402 BK416 HB GG38 HQ43 hf38_0 hx38_0 hx419_0 hx419_1 hHeld ⊢
                refine zX (i:=0) (N:=some 52) (v:= ?_) (a':= ?_) #[true,false,false,false,false,false,false,false,false,false,false] rfl rfl (zP HT_.out zq7) (fun _ _ _ h=>h) (Or.inl ⟨by rfl,?_⟩) ?_ ?_
                rotate_left
                ·intro w'
                 go_simp
                 with_reducible rfl
                rotate_left
                ·simp only [Act.put,List.setIfInBounds_toArray,List.set_cons_zero,List.set_cons_succ,zA,zF]
                 rfl
                refine zX (i:=2) (N:=some 54) (v:= ?_) (a':= ?_) #[true,false,true,false,false,false,false,false,false,false,false] rfl rfl (zP HT_.out zq7) (fun _ _ _ h=>h) (Or.inl ⟨by rfl,?_⟩) ?_ ?_
                rotate_left
                ·intro w'
                 go_simp
                 with_reducible rfl
                rotate_left
                ·simp only [Act.put,List.setIfInBounds_toArray,List.set_cons_zero,List.set_cons_succ,zA,zF]
                 rfl
                refine zX (i:=4) (N:=some 56) (v:= ?_) (a':= ?_) #[true,false,true,false,true,false,false,false,false,false,false] rfl rfl (zP HT_.out zq7) (fun _ _ _ h=>h) (Or.inl ⟨by rfl,?_⟩) ?_ ?_
                rotate_left
                ·intro w'
                 go_simp
                 with_reducible rfl
                rotate_left
                ·simp only [Act.put,List.setIfInBounds_toArray,List.set_cons_zero,List.set_cons_succ,zA,zF]
                 rfl
                refine zX (i:=8) (N:=some 60) (v:= ?_) (a':= ?_) #[true,false,true,false,true,false,false,false,true,false,false] rfl rfl (zP HT_.out zq7) (fun _ _ _ h=>h) (Or.inl ⟨by rfl,?_⟩) ?_ ?_
                rotate_left
                ·intro w'
                 go_simp
                 with_reducible rfl
                rotate_left
                ·simp only [Act.put,List.setIfInBounds_toArray,List.set_cons_zero,List.set_cons_succ,zA,zF]
                 rfl
                refine take_ (i:=1) (N:=some 53) (v:= ?_) (a':= ?_) #[true,true,true,false,true,false,false,false,true,false,false] rfl rfl (zU HT_.out HW_.out zq7) (fun _ _ _ h=>h) (Or.inl ⟨by rfl,?_⟩) hHeld ?_ ?_
                rotate_left
                ·rintro w' ⟨s0,s1,s2,s3,s4,s5⟩
                 go_simp
                 with_reducible rfl
                rotate_left
                ·simp only [Act.put,List.setIfInBounds_toArray,List.set_cons_zero,List.set_cons_succ,zA,zF]
                 rfl
                refine take_ (i:=3) (N:=some 55) (v:= ?_) (a':= ?_) #[true,true,true,true,true,false,false,false,true,false,false] rfl rfl (zU HT_.out HW_.out zq7) (fun _ _ _ h=>h) (Or.inl ⟨by rfl,?_⟩) hHeld ?_ ?_
                rotate_left
                ·rintro w' ⟨s0,s1,s2,s3,s4,s5⟩
                 go_simp
                 with_reducible rfl
                rotate_left
                ·simp only [Act.put,List.setIfInBounds_toArray,List.set_cons_zero,List.set_cons_succ,zA,zF]
                 rfl
                refine zX (i:=5) (N:=some 57) (v:= ?_) (a':= ?_) #[true,true,true,true,true,true,false,false,true,false,false] rfl rfl (zP HT_.out zq7) (fun _ _ _ h=>h) (Or.inl ⟨by rfl,?_⟩) ?_ ?_
                rotate_left
                ·intro w'
                 go_simp
                 with_reducible rfl
                rotate_left
                ·simp only [Act.put,List.setIfInBounds_toArray,List.set_cons_zero,List.set_cons_succ,zA,zF]
                 rfl
                refine zX (i:=6) (N:=some 58) (v:= ?_) (a':= ?_) #[true,true,true,true,true,true,true,false,true,false,false] rfl rfl (zP HT_.out zq7) (fun _ _ _ h=>h) (Or.inl ⟨by rfl,?_⟩) ?_ ?_
                rotate_left
                ·intro w'
                 go_simp
                 with_reducible rfl
                rotate_left
                ·simp only [Act.put,List.setIfInBounds_toArray,List.set_cons_zero,List.set_cons_succ,zA,zF]
                 rfl
                refine take_ (i:=7) (N:=some 59) (v:= ?_) (a':= ?_) #[true,true,true,true,true,true,true,true,true,false,false] rfl rfl (zU HT_.out HW_.out zq7) (fun _ _ _ h=>h) (Or.inl ⟨by rfl,?_⟩) hHeld ?_ ?_
                rotate_left
                ·rintro w' ⟨s0,s1,s2,s3,s4,s5⟩
                 go_simp
                 with_reducible rfl
                rotate_left
                ·simp only [Act.put,List.setIfInBounds_toArray,List.set_cons_zero,List.set_cons_succ,zA,zF]
                 rfl
                refine zX (i:=9) (N:=some 61) (v:= ?_) (a':= ?_) #[true,true,true,true,true,true,true,true,true,true,false] rfl rfl (zP HT_.out zq7) (fun _ _ _ h=>h) (Or.inl ⟨by rfl,?_⟩) ?_ ?_
                rotate_left
                ·intro w'
                 go_simp
                 with_reducible rfl
                rotate_left
                ·simp only [Act.put,List.setIfInBounds_toArray,List.set_cons_zero,List.set_cons_succ,zA,zF]
                 rfl
                refine last_ (i:=10) (N:=none) #[true,true,true,true,true,true,true,true,true,true,true] rfl rfl (zHa HT_.out zq7) zq14 (fun K hK=> ?_)
                refine skip_ (w1:= ?_) zq19 rfl ?_ ?_
                rotate_left
                ·go_simp
                 rfl
                refine hK.out _ _ ?_
                clear hK K
                refine done_ (zwb HT_.out zq7) ?_
                try go_wp2
                go_roundg kj21
                case measure=>have:=HK1.out;have:=HJ21.out;omega
                case rel=>exact ⟨(wrap64 (x8_1+1)),(y420),(.slice (some ⟨go38,0,none⟩) x417000_1.length co38),zq12,H',⟨by have:=HK1.out;have:=HJ21.out;omega⟩,⟨by (with_reducible repeat (first|apply Kd.R_alloc|apply Kd.R_drewN|apply Kd.R_drew));exact HQ43.out⟩,⟨by (with_reducible repeat (first|refine zj ?_ _|refine zl ?_|refine zh ?_ _));refine zH ?_ (zq30 HO_417000.out BK401.out) _;(with_reducible repeat (first|refine zj ?_ _|refine zl ?_|refine zh ?_ _));exact BK401.out⟩,⟨by (with_reducible repeat (first|refine zj ?_ _|refine zl ?_|refine zh ?_ _));refine zH ?_ (zq30 HO_417000.out BK402.out) _;(with_reducible repeat (first|refine zj ?_ _|refine zl ?_|refine zh ?_ _));exact BK402.out⟩,⟨by (with_reducible repeat (first|refine zj ?_ _|refine zl ?_|refine zh ?_ _));refine zH ?_ (zq30 HO_417000.out BK416.out) _;(with_reducible repeat (first|refine zj ?_ _|refine zl ?_|refine zh ?_ _));exact BK416.out⟩,⟨by repeat (first|(with_reducible first|exact HB.out|apply zg|apply zf|apply zm|refine zr ?_ GB38.out|refine zr ?_ GE401.out|refine zr ?_ GE402.out|refine zr ?_ GE416.out)|exact HB.out)⟩⟩
               ·rw [if_neg c37] at H
                exact absurd H zq15
              ·rw [if_neg c36] at H
               exact absurd H zq15
             ·rw [if_neg c35] at H
              exact absurd H zq15
            ·rw [if_neg c34] at H
             exact absurd H zq15
           ·rw [if_neg c32] at H
            have c32b0:(x8_1==a2)=false:=beq_eq_false_iff_ne.mpr c32
            have c32b1:(x8_1 !=a2)=true:=bne_iff_ne.mpr c32
            by_cases c44:0≤((zn l0_1 x8_1).f0)
            ·rw [if_pos c44] at H
             have c44b0:decide (0≤((zn l0_1 x8_1).f0))=true:=decide_eq_true c44
             clear c44
             by_cases c45:((zn l0_1 x8_1).f0)<(x417000_1.length:Int)
             ·rw [if_pos c45] at H
              have c45b0:decide (((zn l0_1 x8_1).f0)<(x417000_1.length:Int))=true:=decide_eq_true c45
              clear c45
              obtain ⟨y422,hy422⟩:∃y_:List ByteArray,y_=(x417000_1.set (((zn l0_1 x8_1).f0):Int).toNat ((zn l0_1 x8_1).f1)):=⟨_,rfl⟩
              replace H:(spec_FallDisk.l0 kj21 l1 a2 (wrap64 (x8_1+1)) l0_0 l0_1 y422)=some (r1,r2):=by first|(rw [hy422];with_reducible exact H)|(have H2_:=(Option.bind_some _ _).symm.trans H;rw [hy422];with_reducible exact H2_)|(have H2_:=(Option.bind_some _ _).symm.trans H;with_reducible exact H2_)|with_reducible exact H|(rw [hy422];exact H)|exact H
              have Ny422:=zz hy422
              clear hy422
              have H':=zz H
              clear H
              have hnb47:=NB401_402.out
              have hnc47:=NB402_401.out
              have hnb48:=NB401_416.out
              have hnc48:=NB416_401.out
              have hcz49_0:wc.cell? ⟨gb401,0,none⟩=some (.slice A0_0 l0_0.length c0_0):=(ze BK401.out 0).trans rfl
              have hcz49_1:wc.cell? ⟨gb401,1,none⟩=some (.slice A0_1 l0_1.length c0_1):=(ze BK401.out 1).trans rfl
              have hfz49_0:=zd BK401.out 0
              have hfz49_1:=zd BK401.out 1
              have p418:0≤(x8_1:Int):=of_decide_eq_true zq11
              have q418:x8_1<(l0_1.length:Int):=of_decide_eq_true zq11
              obtain ⟨ad418,e418,hx418_0,hx418_1⟩:=zla HR0_1.out x8_1 p418 q418
              cases e418
              replace hx418_0:=(HB.out.cell (World.block_lt_of_cell? w _ hx418_0)).trans hx418_0
              replace hx418_1:=(HB.out.cell (World.block_lt_of_cell? w _ hx418_1)).trans hx418_1
              replace p418:=eq_true p418
              replace q418:=eq_true q418
              try go_wp2
              have n0_:=zz (Kd.R_drew HO_417000.out)
              have n1_:=zz (zl BK401.out)
              have n2_:=zz (zl BK402.out)
              have n3_:=zz (zl BK416.out)
              have n4_:=zz (zm HB.out)
              clear HO_417000
              clear BK401
              clear BK402
              clear BK416
              clear HB
              have HO_417000:=n0_
              have BK401:=n1_
              have BK402:=n2_
              have BK416:=n3_
              have HB:=n4_
              clear n0_ n1_ n2_ n3_ n4_
              have p421:0≤(x8_1:Int):=of_decide_eq_true zq11
              have q421:x8_1<(l0_1.length:Int):=of_decide_eq_true zq11
              obtain ⟨ad421,e421,hx421_0,hx421_1⟩:=zla HR0_1.out x8_1 p421 q421
              have hw421_1:=hx421_1
              have hw421_0:=hx421_0
              obtain rfl:ad418=ad421:=(by injection e421)
              replace hx421_0:=(HB.out.cell (World.block_lt_of_cell? w _ hx421_0)).trans hx421_0
              replace hx421_1:=(HB.out.cell (World.block_lt_of_cell? w _ hx421_1)).trans hx421_1
              replace p421:=eq_true p421
              replace q421:=eq_true q421
              have p46:0≤(((zn l0_1 x8_1).f0):Int):=of_decide_eq_true zq11
              have q46:(((zn l0_1 x8_1).f0):Int)<((x417000_1.length:Int):Int):=of_decide_eq_true zq11
              obtain ⟨go46,co46,eo46,gb46,gl46,cl46,HG46⟩:=Kd.R_form HO_417000.out zq5
              (first|cases eo46|(injection eo46 with ea_ en_ ec_;(first|subst ea_|(injection ea_ with ea_;subst ea_));subst ec_;clear en_))
              have GB46:=zz gb46
              have GG46:=zz HG46
              clear gb46 gl46 HG46
              obtain ⟨hx46_0,hf46_0⟩:=Kd.R_celln (⟨#[]⟩:ByteArray) HO_417000.out (((zn l0_1 x8_1).f0):Int) p46 q46
              replace p46:=eq_true p46
              replace q46:=eq_true q46
              have HP51:=Kd.R_putn HO_417000.out (((zn l0_1 x8_1).f0):Int) ((zn l0_1 x8_1).f1)
              rw [←Ny422.out] at HP51
              have HQ51:=zz HP51
              clear HP51
              refine zBb (n:=11) (S:=fun w'=>w'.cell? ⟨gb416,0,none⟩=some (.slice (some ⟨go46,0,none⟩) x417000_1.length co46)∧w'.cell? ⟨gb416,1,none⟩=some (.slice none 0 0)∧w'.cell? ⟨gb401,0,none⟩=some (.slice A0_0 l0_0.length c0_0)∧w'.cell? ⟨gb401,1,none⟩=some (.slice (some ad418) l0_1.length c0_1)∧w'.cell? (ad418.add ((x8_1).toNat*2))=some (.int .i64 ((zn l0_1 x8_1).f0))∧w'.cell? ⟨(ad418.add ((x8_1).toNat*2)).block,(ad418.add ((x8_1).toNat*2)).off+1,none⟩=some (.string ((zn l0_1 x8_1).f1))) (ds:=[10]) #[false,false,false,false,false,false,false,false,false,false,false] zq7 rfl rfl ⟨(ze BK416.out 0).trans rfl,(ze BK416.out 1).trans rfl,(ze BK401.out 0).trans rfl,(ze BK401.out 1).trans rfl,((HB.out.cell (World.block_lt_of_cell? w _ hw421_0)).trans hw421_0),((HB.out.cell (World.block_lt_of_cell? w _ hw421_1)).trans hw421_1)⟩ (fun hHeld=> ?_);refine zJa spec_FallDisk.tab11 spec_FallDisk.bits11 (fun HT_ HW_=> ?_)
              generalize wc.drew=w50 at HO_417000 BK401 BK402 BK416 HB GG46 HQ51 hf46_0 hx421_0 hx421_1 hx46_0 hHeld ⊢
              refine zX (i:=0) (N:=some 52) (v:= ?_) (a':= ?_) #[true,false,false,false,false,false,false,false,false,false,false] rfl rfl (zP HT_.out zq7) (fun _ _ _ h=>h) (Or.inl ⟨by rfl,?_⟩) ?_ ?_
              rotate_left
              ·intro w'
               go_simp
               with_reducible rfl
              rotate_left
              ·simp only [Act.put,List.setIfInBounds_toArray,List.set_cons_zero,List.set_cons_succ,zA,zF]
               rfl
              refine zX (i:=2) (N:=some 54) (v:= ?_) (a':= ?_) #[true,false,true,false,false,false,false,false,false,false,false] rfl rfl (zP HT_.out zq7) (fun _ _ _ h=>h) (Or.inl ⟨by rfl,?_⟩) ?_ ?_
              rotate_left
              ·intro w'
               go_simp
               with_reducible rfl
              rotate_left
              ·simp only [Act.put,List.setIfInBounds_toArray,List.set_cons_zero,List.set_cons_succ,zA,zF]
               rfl
              refine zX (i:=4) (N:=some 56) (v:= ?_) (a':= ?_) #[true,false,true,false,true,false,false,false,false,false,false] rfl rfl (zP HT_.out zq7) (fun _ _ _ h=>h) (Or.inl ⟨by rfl,?_⟩) ?_ ?_
              rotate_left
              ·intro w'
               go_simp
               with_reducible rfl
              rotate_left
              ·simp only [Act.put,List.setIfInBounds_toArray,List.set_cons_zero,List.set_cons_succ,zA,zF]
               rfl
              refine zX (i:=8) (N:=some 60) (v:= ?_) (a':= ?_) #[true,false,true,false,true,false,false,false,true,false,false] rfl rfl (zP HT_.out zq7) (fun _ _ _ h=>h) (Or.inl ⟨by rfl,?_⟩) ?_ ?_
              rotate_left
              ·intro w'
               go_simp
               with_reducible rfl
              rotate_left
              ·simp only [Act.put,List.setIfInBounds_toArray,List.set_cons_zero,List.set_cons_succ,zA,zF]
               rfl
              refine take_ (i:=1) (N:=some 53) (v:= ?_) (a':= ?_) #[true,true,true,false,true,false,false,false,true,false,false] rfl rfl (zU HT_.out HW_.out zq7) (fun _ _ _ h=>h) (Or.inl ⟨by rfl,?_⟩) hHeld ?_ ?_
              rotate_left
              ·rintro w' ⟨s0,s1,s2,s3,s4,s5⟩
               go_simp
               with_reducible rfl
              rotate_left
              ·simp only [Act.put,List.setIfInBounds_toArray,List.set_cons_zero,List.set_cons_succ,zA,zF]
               rfl
              refine take_ (i:=3) (N:=some 55) (v:= ?_) (a':= ?_) #[true,true,true,true,true,false,false,false,true,false,false] rfl rfl (zU HT_.out HW_.out zq7) (fun _ _ _ h=>h) (Or.inl ⟨by rfl,?_⟩) hHeld ?_ ?_
              rotate_left
              ·rintro w' ⟨s0,s1,s2,s3,s4,s5⟩
               go_simp
               with_reducible rfl
              rotate_left
              ·simp only [Act.put,List.setIfInBounds_toArray,List.set_cons_zero,List.set_cons_succ,zA,zF]
               rfl
              refine zX (i:=5) (N:=some 57) (v:= ?_) (a':= ?_) #[true,true,true,true,true,true,false,false,true,false,false] rfl rfl (zP HT_.out zq7) (fun _ _ _ h=>h) (Or.inl ⟨by rfl,?_⟩) ?_ ?_
              rotate_left
              ·intro w'
               go_simp
               with_reducible rfl
              rotate_left
              ·simp only [Act.put,List.setIfInBounds_toArray,List.set_cons_zero,List.set_cons_succ,zA,zF]
               rfl
              refine zX (i:=6) (N:=some 58) (v:= ?_) (a':= ?_) #[true,true,true,true,true,true,true,false,true,false,false] rfl rfl (zP HT_.out zq7) (fun _ _ _ h=>h) (Or.inl ⟨by rfl,?_⟩) ?_ ?_
              rotate_left
              ·intro w'
               go_simp
               with_reducible rfl
              rotate_left
              ·simp only [Act.put,List.setIfInBounds_toArray,List.set_cons_zero,List.set_cons_succ,zA,zF]
               rfl
              refine take_ (i:=7) (N:=some 59) (v:= ?_) (a':= ?_) #[true,true,true,true,true,true,true,true,true,false,false] rfl rfl (zU HT_.out HW_.out zq7) (fun _ _ _ h=>h) (Or.inl ⟨by rfl,?_⟩) hHeld ?_ ?_
              rotate_left
              ·rintro w' ⟨s0,s1,s2,s3,s4,s5⟩
               go_simp
               with_reducible rfl
              rotate_left
              ·simp only [Act.put,List.setIfInBounds_toArray,List.set_cons_zero,List.set_cons_succ,zA,zF]
               rfl
              refine zX (i:=9) (N:=some 61) (v:= ?_) (a':= ?_) #[true,true,true,true,true,true,true,true,true,true,false] rfl rfl (zP HT_.out zq7) (fun _ _ _ h=>h) (Or.inl ⟨by rfl,?_⟩) ?_ ?_
              rotate_left
              ·intro w'
               go_simp
               with_reducible rfl
              rotate_left
              ·simp only [Act.put,List.setIfInBounds_toArray,List.set_cons_zero,List.set_cons_succ,zA,zF]
               rfl
              refine last_ (i:=10) (N:=none) #[true,true,true,true,true,true,true,true,true,true,true] rfl rfl (zHa HT_.out zq7) zq14 (fun K hK=> ?_)
              refine skip_ (w1:= ?_) zq19 rfl ?_ ?_
              rotate_left
              ·go_simp
               rfl
              refine hK.out _ _ ?_
              clear hK K
              refine done_ (zwb HT_.out zq7) ?_
              try go_wp2
              go_roundg kj21
              case measure=>have:=HK1.out;have:=HJ21.out;omega
              case rel=>exact ⟨(wrap64 (x8_1+1)),(y422),(.slice (some ⟨go46,0,none⟩) x417000_1.length co46),zq12,H',⟨by have:=HK1.out;have:=HJ21.out;omega⟩,⟨by (with_reducible repeat (first|apply Kd.R_alloc|apply Kd.R_drewN|apply Kd.R_drew));exact HQ51.out⟩,⟨by (with_reducible repeat (first|refine zj ?_ _|refine zl ?_|refine zh ?_ _));refine zH ?_ (zq30 HO_417000.out BK401.out) _;(with_reducible repeat (first|refine zj ?_ _|refine zl ?_|refine zh ?_ _));exact BK401.out⟩,⟨by (with_reducible repeat (first|refine zj ?_ _|refine zl ?_|refine zh ?_ _));refine zH ?_ (zq30 HO_417000.out BK402.out) _;(with_reducible repeat (first|refine zj ?_ _|refine zl ?_|refine zh ?_ _));exact BK402.out⟩,⟨by (with_reducible repeat (first|refine zj ?_ _|refine zl ?_|refine zh ?_ _));refine zH ?_ (zq30 HO_417000.out BK416.out) _;(with_reducible repeat (first|refine zj ?_ _|refine zl ?_|refine zh ?_ _));exact BK416.out⟩,⟨by repeat (first|(with_reducible first|exact HB.out|apply zg|apply zf|apply zm|refine zr ?_ GB46.out|refine zr ?_ GE401.out|refine zr ?_ GE402.out|refine zr ?_ GE416.out)|exact HB.out)⟩⟩
             ·rw [if_neg c45] at H
              exact absurd H zq15
            ·rw [if_neg c44] at H
             exact absurd H zq15
          ·rw [if_neg c31] at H
           exact absurd H zq15
         ·rw [if_neg c30] at H
          exact absurd H zq15
     ·rw [if_neg c21] at H
      have c21b0:decide (x8_1<(l0_1.length:Int))=false:=decide_eq_false c21
      clear c21
      simp only [Option.some.injEq,Prod.mk.injEq] at H
      obtain ⟨rfl,rfl⟩:=H
      have hnb52:=NB401_402.out
      have hnc52:=NB402_401.out
      have hnb53:=NB401_416.out
      have hnc53:=NB416_401.out
      have hcz54_0:wr.cell? ⟨gb401,0,none⟩=some (.slice A0_0 l0_0.length c0_0):=(ze BK401.out 0).trans rfl
      have hcz54_1:wr.cell? ⟨gb401,1,none⟩=some (.slice A0_1 l0_1.length c0_1):=(ze BK401.out 1).trans rfl
      have hfz54_0:=zd BK401.out 0
      have hfz54_1:=zd BK401.out 1
      have hnb55:=NB416_402.out
      have hnc55:=NB402_416.out
      have hcz56_0:wr.cell? ⟨gb416,0,none⟩=some (u417000):=(ze BK416.out 0).trans rfl
      have hcz56_1:wr.cell? ⟨gb416,1,none⟩=some (.slice none 0 0):=(ze BK416.out 1).trans rfl
      have hfz56_0:=zd BK416.out 0
      have hfz56_1:=zd BK416.out 1
      obtain ⟨Ao57,co57,eo57⟩:=Kd.R_slice HO_417000.out
      subst eo57
      have hcz58_0:wr.cell? ⟨gb402,0,none⟩=some (.slice none 0 0):=(ze BK402.out 0).trans rfl
      have hcz58_1:wr.cell? ⟨gb402,1,none⟩=some (.slice none 0 0):=(ze BK402.out 1).trans rfl
      have hfz58_0:=zd BK402.out 0
      have hfz58_1:=zd BK402.out 1
      go_wp2
      refine bodyPost_ret (results_cell_row rfl _ _ gb402 37 #[.slice Ao57 x417000_1.length co57,.slice none 0 0] (0,0) _ rfl (by (with_reducible repeat (first|refine zj ?_ _|refine zl ?_|refine zh ?_ _));refine zL (cs:= #[.slice Ao57 x417000_1.length co57,.slice none 0 0]) ?_ 1 _ rfl;(with_reducible repeat (first|refine zj ?_ _|refine zl ?_|refine zh ?_ _));refine zL (cs:= #[.slice none 0 0,.slice none 0 0]) ?_ 0 _ rfl;(with_reducible repeat (first|refine zj ?_ _|refine zl ?_|refine zh ?_ _));exact BK402.out) Tryz.underlying37 rfl zq7) rfl ?_
      exact ⟨_,_,by first|rfl|(simp [zx,zw]<;>rfl)|(simp [*,zx,zw]<;>rfl),by (with_reducible repeat (first|apply Kd.R_alloc|apply Kd.R_drewN|apply Kd.R_drew));exact Kd.R_mono (Kd.R_far (p:=⟨gb402,1,none⟩) (Kd.R_far (p:=⟨gb402,0,none⟩) (Kd.R_types HO_417000.out BK402.out zq14) (fun _ hk=>hk.2) (.slice Ao57 x417000_1.length co57)) (fun _ hk=>hk.2) (.slice none 0 0)) (fun _ hk=>trivial),by first|exact Kd.R_nil _ _ _ _ _|exact Kd.N_nil _ _ _ _ _|exact Kd.V_nil _ _ _ _ _|exact Kd.Q_nil _ _ _ _ _|exact Kd.S_nil _ _ _ _ _,by repeat (first|(with_reducible first|exact HB.out|apply zg|apply zf|apply zm|refine zr ?_ GE401.out|refine zr ?_ GE402.out|refine zr ?_ GE416.out)|exact HB.out)⟩
  ·rw [if_neg c6] at H
   exact absurd H zq15
 ·replace c5:=Bool.eq_false_iff.mpr c5
  subst c5
  have H1:((spec_l03Copy.f l0_0 l0_1).bind fun bt404=>(some (bt404.1,bt404.2)))=some (r1,r2):=by rw [if_neg (show ¬(false=true) by decide)] at H;exact H
  clear H
  have H:=H1
  clear H1
  replace H:=Option.bind_eq_some_iff.mp H
  obtain ⟨⟨t404,t407⟩,A590,H⟩:=H
  replace H:(some (t404,t407))=some (r1,r2):=H
  have A59:=zz A590
  clear A590
  simp only [Option.some.injEq,Prod.mk.injEq] at H
  obtain ⟨rfl,rfl⟩:=H
  go_enter Tryz.func59,Tryz.ntmps59
  go_wp2_with (first|((with_reducible refine zv (N:=3) rfl ?_);refine zE ?hg (N:=3) ?hd (cs:= #[.slice A0_0 l0_0.length c0_0,.slice A0_1 l0_1.length c0_1]) (t:=37) ?hr ?_;(case hd=>rfl);(case hg=>rfl);(case hr=>first|(go_simp;done)|(go_simp;rfl));intro gb401 hg w60 hbox hb;have n0_:=zz (zk zq1 hb);have n1_:=zz (hbox);have n2_:=zz ((by rw [hg];exact (zi zq1):w.heap.size≤gb401));have n3_:=zz ((by rw [hg];exact (zi zq1):w.heap.size≤gb401));clear HB;have HB:=n0_;have BK401:=n1_;have GW401:=n2_;have GE401:=n3_;clear n0_ n1_ n2_ n3_;clear hb hbox hg)|((with_reducible refine zv (N:=6) rfl ?_);refine zE ?hg (N:=6) ?hd (cs:= #[.slice none 0 0,.slice none 0 0]) (t:=37) ?hr ?_;(case hd=>rfl);(case hg=>rfl);(case hr=>first|(go_simp;done)|(go_simp;rfl));intro gb402 hg w61 hbox hb;have n0_:=zz (zu (g:=gb401) (o:= .cells #[.slice A0_0 l0_0.length c0_0,.slice A0_1 l0_1.length c0_1] 37 (0,0)) (zq0 BK401.out) hb);have n1_:=zz (zk (zq3 GE401.out) hb);have n2_:=zz (hbox);have n3_:=zz ((by rw [hg];exact (zi (zq3 GE401.out)):w.heap.size≤gb402));have n4_:=zz ((by rw [hg];exact (zi (zq3 GE401.out)):w.heap.size≤gb402));have n5_:=zz ((by rw [hg];exact Nat.ne_of_lt (zG (g:=gb401) (o:= .cells #[.slice A0_0 l0_0.length c0_0,.slice A0_1 l0_1.length c0_1] 37 (0,0)) (zq0 BK401.out)):gb401≠gb402));have n6_:=zz ((by rw [hg];exact Nat.ne_of_gt (zG (g:=gb401) (o:= .cells #[.slice A0_0 l0_0.length c0_0,.slice A0_1 l0_1.length c0_1] 37 (0,0)) (zq0 BK401.out)):gb402≠gb401));clear BK401;clear HB;have BK401:=n0_;have HB:=n1_;have BK402:=n2_;have GW402:=n3_;have GE402:=n4_;have NB401_402:=n5_;have NB402_401:=n6_;clear n0_ n1_ n2_ n3_ n4_ n5_ n6_;clear hb hbox hg;have hnb62:=NB401_402.out;have hnc62:=NB402_401.out;have hcz63_0:w61.cell? ⟨gb401,0,none⟩=some (.slice A0_0 l0_0.length c0_0):=(ze BK401.out 0).trans rfl;have hcz63_1:w61.cell? ⟨gb401,1,none⟩=some (.slice A0_1 l0_1.length c0_1):=(ze BK401.out 1).trans rfl;have hfz63_0:=zd BK401.out 0;have hfz63_1:=zd BK401.out 1)|((with_reducible refine zB (f:=83) rfl ?_);refine zO (some 11) rfl rfl Tryz.func83 zq7 rfl #[.agg #[.slice A0_0 l0_0.length c0_0,.slice A0_1 l0_1.length c0_1]] rfl zq4 ?_;(with_reducible refine (spec_DiskOk.calls k _ _ l0_0 _ _ l0_1 false _ ?side1 ?side2 ?side3 ?side4 A4.out).mono ?_);(case side1=>repeat (first|exact (Kd.C_below HR0_0.out HB.out)|(with_reducible refine Kd.C_alloc ?_ _)|(with_reducible refine Kd.C_drewN ?_ _)|(with_reducible refine Kd.C_drew ?_)));(case side2=>exact HC0_0.out);(case side3=>repeat (first|exact (Kd.C_below HR0_1.out HB.out)|(with_reducible refine Kd.C_alloc ?_ _)|(with_reducible refine Kd.C_drewN ?_ _)|(with_reducible refine Kd.C_drew ?_)));(case side4=>exact HC0_1.out);rintro e w64 ⟨rfl,hb⟩;refine ⟨_,rfl,?_⟩;have n0_:=zz (zu (g:=gb401) (o:= .cells #[.slice A0_0 l0_0.length c0_0,.slice A0_1 l0_1.length c0_1] 37 (0,0)) (zq0 BK401.out) hb);have n1_:=zz (zu (g:=gb402) (o:= .cells #[.slice none 0 0,.slice none 0 0] 37 (0,0)) (zq0 BK402.out) hb);have n2_:=zz (zk (zq2 GE401.out GE402.out) hb);clear BK401;clear BK402;clear HB;have BK401:=n0_;have BK402:=n1_;have HB:=n2_;clear n0_ n1_ n2_;(try clear hb);(try clear hb2);(try clear hk);(try clear hi);have hcz65_0:w64.cell? ⟨gb401,0,none⟩=some (.slice A0_0 l0_0.length c0_0):=(ze BK401.out 0).trans rfl;have hcz65_1:w64.cell? ⟨gb401,1,none⟩=some (.slice A0_1 l0_1.length c0_1):=(ze BK401.out 1).trans rfl;have hfz65_0:=zd BK401.out 0;have hfz65_1:=zd BK401.out 1)|((with_reducible refine zB (f:=36) rfl ?_);refine zO (some 14) rfl rfl Tryz.func36 zq7 rfl #[.agg #[.slice A0_0 l0_0.length c0_0,.slice A0_1 l0_1.length c0_1]] rfl zq4 ?_;(with_reducible refine (spec_l03Copy.calls _ _ l0_0 _ _ l0_1 t404 t407 _ ?side1 ?side2 ?side3 ?side4 A59.out).mono ?_);(case side1=>repeat (first|exact (Kd.C_below HR0_0.out HB.out)|(with_reducible refine Kd.C_alloc ?_ _)|(with_reducible refine Kd.C_drewN ?_ _)|(with_reducible refine Kd.C_drew ?_)));(case side2=>exact HC0_0.out);(case side3=>repeat (first|exact (Kd.C_below HR0_1.out HB.out)|(with_reducible refine Kd.C_alloc ?_ _)|(with_reducible refine Kd.C_drewN ?_ _)|(with_reducible refine Kd.C_drew ?_)));(case side4=>exact HC0_1.out);rintro e w66 ⟨v405,v408,rfl,ho0,ho1,hb⟩;refine ⟨_,rfl,?_⟩;(first|have rs_v405:=zN (P:=Tryz.prog) ho0|have rs_v405:=zN (P:=Tryz.prog) (Kd.S_R ho0)|skip);(first|have rs_v408:=zN (P:=Tryz.prog) ho1|have rs_v408:=zN (P:=Tryz.prog) (Kd.S_R ho1)|skip);have n0_:=zz (Kd.R_lower ho0 (zi (zq2 GE401.out GE402.out)));have n1_:=zz (Kd.R_lower ho1 (zi (zq2 GE401.out GE402.out)));have n2_:=zz (zu (g:=gb401) (o:= .cells #[.slice A0_0 l0_0.length c0_0,.slice A0_1 l0_1.length c0_1] 37 (0,0)) (zq0 BK401.out) hb);have n3_:=zz (zu (g:=gb402) (o:= .cells #[.slice none 0 0,.slice none 0 0] 37 (0,0)) (zq0 BK402.out) hb);have n4_:=zz (zk (zq2 GE401.out GE402.out) hb);clear BK401;clear BK402;clear HB;have HO406:=n0_;have HO409:=n1_;have BK401:=n2_;have BK402:=n3_;have HB:=n4_;clear n0_ n1_ n2_ n3_ n4_;(try clear hb);(try clear hb2);(try clear hk);(try clear hi);(try clear ho0);(try clear ho1);obtain ⟨Ao67,co67,eo67⟩:=Kd.R_slice HO406.out;subst eo67;have hcz68_0:w66.cell? ⟨gb402,0,none⟩=some (.slice none 0 0):=(ze BK402.out 0).trans rfl;have hcz68_1:w66.cell? ⟨gb402,1,none⟩=some (.slice none 0 0):=(ze BK402.out 1).trans rfl;have hfz68_0:=zd BK402.out 0;have hfz68_1:=zd BK402.out 1;obtain ⟨Ao69,co69,eo69⟩:=Kd.R_slice HO409.out;subst eo69))
  refine bodyPost_ret (results_cell_row rfl _ _ gb402 37 #[.slice Ao67 t404.length co67,.slice Ao69 t407.length co69] (0,0) _ rfl (by (with_reducible repeat (first|refine zj ?_ _|refine zl ?_|refine zh ?_ _));refine zL (cs:= #[.slice Ao67 t404.length co67,.slice none 0 0]) ?_ 1 _ rfl;(with_reducible repeat (first|refine zj ?_ _|refine zl ?_|refine zh ?_ _));refine zL (cs:= #[.slice none 0 0,.slice none 0 0]) ?_ 0 _ rfl;(with_reducible repeat (first|refine zj ?_ _|refine zl ?_|refine zh ?_ _));exact BK402.out) Tryz.underlying37 rfl zq7) rfl ?_
  exact ⟨_,_,by first|rfl|(simp [zx,zw]<;>rfl)|(simp [*,zx,zw]<;>rfl),by (with_reducible repeat (first|apply Kd.R_alloc|apply Kd.R_drewN|apply Kd.R_drew));exact Kd.R_mono (Kd.R_far (p:=⟨gb402,1,none⟩) (Kd.R_far (p:=⟨gb402,0,none⟩) (Kd.R_types HO406.out BK402.out zq14) (fun _ hk=>hk.2) (.slice Ao67 t404.length co67)) (fun _ hk=>hk.2) (.slice Ao69 t407.length co69)) (fun _ hk=>trivial),by (with_reducible repeat (first|apply Kd.R_alloc|apply Kd.R_drewN|apply Kd.R_drew));exact Kd.R_mono (Kd.R_far (p:=⟨gb402,1,none⟩) (Kd.R_far (p:=⟨gb402,0,none⟩) (Kd.R_types HO409.out BK402.out zq14) (fun _ hk=>hk.2) (.slice Ao67 t404.length co67)) (fun _ hk=>hk.2) (.slice Ao69 t407.length co69)) (fun _ hk=>trivial),by repeat (first|(with_reducible first|exact HB.out|apply zg|apply zf|apply zm|refine zr ?_ GE401.out|refine zr ?_ GE402.out)|exact HB.out)⟩
def laws_toBoolS.l0:Nat→List Bool→List Bool→Int→Option (List Bool)
 |0,_,_,_=>none
 |k+1,x0,x3,x4=>if x4<(x0.length:Int) then (if 0≤x4 then (if x4<(x3.length:Int) then (laws_toBoolS.l0 k x0 (x3.set (x4:Int).toNat (zLa false x0 x4)) (wrap64 (x4+1))) else (none)) else (none)) else (some x3)
def laws_toBoolS.f (k:Nat) (l0:List Bool):Option (List Bool):=if 0≤(l0.length:Int) then (if ((l0.length:Int):Int).toNat≤281474976710656 then (laws_toBoolS.l0 k l0 (List.replicate ((l0.length:Int):Int).toNat false) 0) else (none)) else (none)
theorem laws_toBoolS.mono_l:∀k,(∀y0 y1 y2,LeO (laws_toBoolS.l0 k y0 y1 y2) (laws_toBoolS.l0 (k+1) y0 y1 y2))
 |0=>fun _ _ _ r h=>by simp [laws_toBoolS.l0] at h
 |k+1=>by
  have ih0:=laws_toBoolS.mono_l k
  ·intro y0 y1 y2
   unfold laws_toBoolS.l0
   repeat' first
   |(with_reducible exact ih0 _ _ _)
   |(with_reducible exact LeO.refl _)
   |(with_reducible exact LeO.none _)
   |(with_reducible refine LeO.ite ?_ ?_)
   |(with_reducible refine LeO.bind ?_ (fun _=> ?_))
   |exact ih0 _ _ _
theorem laws_toBoolS.mono:∀a0 k,LeO (laws_toBoolS.f k a0) (laws_toBoolS.f (k+1) a0):=by
 intro a0 k
 have ih0:=laws_toBoolS.mono_l k
 unfold laws_toBoolS.f
 repeat' first
   |(with_reducible exact ih0 _ _ _)
   |(with_reducible exact LeO.refl _)
   |(with_reducible exact LeO.none _)
   |(with_reducible refine LeO.ite ?_ ?_)
   |(with_reducible refine LeO.bind ?_ (fun _=> ?_))
   |exact ih0 _ _ _
theorem laws_toBoolS.calls (k:Nat) (A0:Option Addr) (c0:Nat) (l0:List Bool) (r:List Bool) (w:World) (hr0:Kd.C Kd.bool w A0 l0.length l0) (hc0:l0.length≤c0) (h:laws_toBoolS.f k l0=some r):
  Calls Tryz.prog 19 #[.slice A0 l0.length c0] w fun e w'=>∃v0_:Value,e= .returned (v0_)∧Kd.R Kd.bool 4 w' w.heap.size (fun _=>True) v0_ r∧Below w.heap.size w w':=by
 have HR0:=zz hr0
 have HC0:=zz hc0
 clear hr0 hc0
 have HB:=zz (Below.refl w.heap.size w)
 have H:(if 0≤(l0.length:Int) then (if ((l0.length:Int):Int).toNat≤281474976710656 then (laws_toBoolS.l0 k l0 (List.replicate ((l0.length:Int):Int).toNat false) 0) else (none)) else (none))=some r:=h
 clear h
 by_cases c2:0≤(l0.length:Int)
 ·rw [if_pos c2] at H
  have c2b0:=eq_true c2
  have c2b1:decide (0≤(l0.length:Int))=true:=decide_eq_true c2
  clear c2
  by_cases c3:((l0.length:Int):Int).toNat≤281474976710656
  ·rw [if_pos c3] at H
   have c3b0:=eq_true c3
   have c3b1:decide (((l0.length:Int):Int).toNat≤281474976710656)=true:=decide_eq_true c3
   clear c3
   obtain ⟨y425,hy425⟩:∃y_:List Bool,y_=(List.replicate ((l0.length:Int):Int).toNat false):=⟨_,rfl⟩
   replace H:(laws_toBoolS.l0 k l0 y425 0)=some r:=by first|(rw [hy425];with_reducible exact H)|(have H2_:=(Option.bind_some _ _).symm.trans H;rw [hy425];with_reducible exact H2_)|(have H2_:=(Option.bind_some _ _).symm.trans H;with_reducible exact H2_)|with_reducible exact H|(rw [hy425];exact H)|exact H
   have Ny425:=zz hy425
   clear hy425
   have H':=zz H
   clear H
   go_enter Tryz.func19,Tryz.ntmps19
   go_wp2_with (first|((with_reducible refine zv (N:=7) rfl ?_);refine Kd.R_make Kd.bool _ 4 rfl (N:=7) rfl 55 _ _ rfl (l0.length:Int) rfl rfl Tryz.underlying55 (.bool false) 1 info4 rfl zq14 zq5 false (ok:=fun _=>True) (okp:=fun _=>True) rfl (fun _ hk=>hk) trivial (of_decide_eq_true zq11) (Nat.le_trans (Nat.mul_le_mul_right _ (of_decide_eq_true zq11:(l0.length:Int).toNat≤281474976710656)) zq5) (Below.refl _ _) (Nat.le_refl _) ?_;intro v426 w4 ho5 hb hg_ hnew_;clear hg_ hnew_;(first|rw [←Ny425.out] at ho5|(simp only [Int.reduceToNat] at ho5;rw [←Ny425.out] at ho5));have n0_:=zz (Kd.R_lower ho5 (zi zq1));have n1_:=zz (zk zq1 hb);clear HB;have HO427:=n0_;have HB:=n1_;clear n0_ n1_;clear hb ho5))
   go_loopg [4] k (fun kq v4 w'=>∃(x3_1:List Bool) (x4_1:Int),v4= .int .i64 x4_1∧Z0 (laws_toBoolS.l0 kq l0 x3_1 x4_1=some r)∧Z0 (kq≤k)∧Z0 (Kd.R Kd.bool 4 w' w.heap.size (fun _=>True) v426 x3_1)∧Z0 (Below w.heap.size w w'))
   case atStart=>exact ⟨(y425),(0),zq12,H',⟨Nat.le_refl _⟩,⟨by (with_reducible repeat (first|apply Kd.R_alloc|apply Kd.R_drewN|apply Kd.R_drew));exact HO427.out⟩,⟨by repeat (first|(with_reducible first|exact HB.out|apply zg|apply zf|apply zm)|exact HB.out)⟩⟩
   case round=>
    clear H'
    try clear c2
    try clear c2b0
    try clear c2b1
    try clear c3
    try clear c3b0
    try clear c3b1
    obtain ⟨x3_1,x4_1,rfl,HA,HK1,HO_3,HB⟩:=hrel
    cases gk with
    |zero=>exact absurd HA.out (by simp [laws_toBoolS.l0])
    |succ k1=>
     have H:=HA.out
     clear HA
     simp only [laws_toBoolS.l0] at H
     by_cases c6:x4_1<(l0.length:Int)
     ·rw [if_pos c6] at H
      have c6b0:decide (x4_1<(l0.length:Int))=true:=decide_eq_true c6
      clear c6
      by_cases c7:0≤x4_1
      ·rw [if_pos c7] at H
       have c7b0:decide (0≤x4_1)=true:=decide_eq_true c7
       clear c7
       by_cases c8:x4_1<(x3_1.length:Int)
       ·rw [if_pos c8] at H
        have c8b0:decide (x4_1<(x3_1.length:Int))=true:=decide_eq_true c8
        clear c8
        obtain ⟨y429,hy429⟩:∃y_:List Bool,y_=(x3_1.set (x4_1:Int).toNat (zLa false l0 x4_1)):=⟨_,rfl⟩
        replace H:(laws_toBoolS.l0 k1 l0 y429 (wrap64 (x4_1+1)))=some r:=by first|(rw [hy429];with_reducible exact H)|(have H2_:=(Option.bind_some _ _).symm.trans H;rw [hy429];with_reducible exact H2_)|(have H2_:=(Option.bind_some _ _).symm.trans H;with_reducible exact H2_)|with_reducible exact H|(rw [hy429];exact H)|exact H
        have Ny429:=zz hy429
        clear hy429
        have H':=zz H
        clear H
        have p428:0≤(x4_1:Int):=of_decide_eq_true zq11
        have q428:x4_1<(l0.length:Int):=of_decide_eq_true zq11
        obtain ⟨ad428,e428,hx428_0⟩:=Kd.at_bool HR0.out x4_1 p428 q428
        cases e428
        replace hx428_0:=(HB.out.cell (World.block_lt_of_cell? w _ hx428_0)).trans hx428_0
        replace p428:=eq_true p428
        replace q428:=eq_true q428
        have p9:0≤(x4_1:Int):=of_decide_eq_true zq11
        have q9:(x4_1:Int)<((x3_1.length:Int):Int):=of_decide_eq_true zq11
        obtain ⟨go9,co9,eo9,gb9,gl9,cl9,HG9⟩:=Kd.R_form HO_3.out zq5
        (first|cases eo9|(injection eo9 with ea_ en_ ec_;(first|subst ea_|(injection ea_ with ea_;subst ea_));subst ec_;clear en_))
        have GB9:=zz gb9
        have GG9:=zz HG9
        clear gb9 gl9 HG9
        obtain ⟨hx9_0,hf9_0⟩:=Kd.R_celln false HO_3.out (x4_1:Int) p9 q9
        replace p9:=eq_true p9
        replace q9:=eq_true q9
        have HP10:=Kd.R_putg HO_3.out (x4_1:Int) (zLa false l0 x4_1)
        go_wp2_with (first|((with_reducible refine zC (t:=4) (p:=20) rfl ?_);refine zca (t:=4) (p:=20) (v:= ?vo_w11) (w1:=(wr.setCell ⟨go9,(x4_1:Int).toNat,none⟩ (.bool (zLa false l0 x4_1)))) ?hg ?ho ?hn ?hr ?_;(case ho=>rfl);(case hg=>rfl);(case hn=>rfl);(case hr=>first|(go_simp;done)|(go_simp;rfl));intro w11 hw;have hg:wr.grownBy w11 (some go9):=(by rw [hw];exact HP10.2);have hp_:Kd.R Kd.bool 4 w11 w.heap.size (fun _=>True) (.slice (some ⟨go9,0,none⟩) x3_1.length co9) y429:=(by rw [hw,Ny429.out];exact HP10.1);clear HP10;have n0_:=zz (hp_);have n1_:=zz ((by rw [hw];exact zr (HB.out) GB9.out:Below w.heap.size w w11));clear HO_3;clear HB;have HO_3:=n0_;have HB:=n1_;clear n0_ n1_;clear hg hw hp_))
        go_roundg k1
        case measure=>have:=HK1.out;omega
        case rel=>exact ⟨(y429),(wrap64 (x4_1+1)),zq12,H',⟨by have:=HK1.out;omega⟩,⟨by (with_reducible repeat (first|apply Kd.R_alloc|apply Kd.R_drewN|apply Kd.R_drew));exact HO_3.out⟩,⟨by repeat (first|(with_reducible first|exact HB.out|apply zg|apply zf|apply zm)|exact HB.out)⟩⟩
       ·rw [if_neg c8] at H
        exact absurd H zq15
      ·rw [if_neg c7] at H
       exact absurd H zq15
     ·rw [if_neg c6] at H
      have c6b0:decide (x4_1<(l0.length:Int))=false:=decide_eq_false c6
      clear c6
      obtain rfl:=Option.some.inj H
      go_wp2
      go_ret
      exact ⟨_,by first|rfl|(simp [zx,zw]<;>rfl)|(simp [*,zx,zw]<;>rfl),by (with_reducible repeat (first|apply Kd.R_alloc|apply Kd.R_drewN|apply Kd.R_drew));exact HO_3.out,by repeat (first|(with_reducible first|exact HB.out|apply zg|apply zf|apply zm)|exact HB.out)⟩
  ·rw [if_neg c3] at H
   exact absurd H zq15
 ·rw [if_neg c2] at H
  exact absurd H zq15
mutual
def impl_FallDisk.l0:Nat→List Bool→Int→List (S110)→Int→Int→List ByteArray→List (S110)→Option (List ByteArray×(List (S110)))
 |0,_,_,_,_,_,_,_=>none
 |k+1,x1,x2,x18,x19,x20,x667000,x667001=>if x20<x19 then (if 0≤x20 then (if x20<(x18.length:Int) then (if x20≥(x1.length:Int) then (impl_FallDisk.j1 k x1 x2 x20 x18 x19 x20 true x667000 x667001 ((zn x18 x20).f0) ((zn x18 x20).f1)) else (if x20<(x1.length:Int) then (impl_FallDisk.j1 k x1 x2 x20 x18 x19 x20 (!(zLa false x1 x20)) x667000 x667001 ((zn x18 x20).f0) ((zn x18 x20).f1)) else (none))) else (none)) else (none)) else (some (x667000,([]:List (S110))))
def impl_FallDisk.j1:Nat→List Bool→Int→Int→List (S110)→Int→Int→Bool→List ByteArray→List (S110)→Int→ByteArray→Option (List ByteArray×(List (S110)))
 |0,_,_,_,_,_,_,_,_,_,_,_=>none
 |k+1,x1,x2,x8,x18,x19,x20,x35,x667000,x667001,x670000,x670001=>if x35=true then (impl_FallDisk.l0 k x1 x2 x18 x19 (wrap64 (x20+1)) x667000 x667001) else (if x8=x2 then (if 0≤(wrap64 ((x670001.size:Int)/2)) then (if (wrap64 ((x670001.size:Int)/2))≤(x670001.size:Int) then (if 0≤x670000 then (if x670000<(x667000.length:Int) then (impl_FallDisk.l0 k x1 x2 x18 x19 (wrap64 (x20+1)) (x667000.set (x670000:Int).toNat (x670001.extract 0 ((wrap64 ((x670001.size:Int)/2)):Int).toNat)) x667001) else (none)) else (none)) else (none)) else (none)) else (if 0≤x670000 then (if x670000<(x667000.length:Int) then (impl_FallDisk.l0 k x1 x2 x18 x19 (wrap64 (x20+1)) (x667000.set (x670000:Int).toNat x670001) x667001) else (none)) else (none)))
end
def impl_FallDisk.f (k:Nat) (l0_0:List ByteArray) (l0_1:List (S110)) (l1:List Bool) (a2:Int):Option (List ByteArray×(List (S110))):=(impl_cloneDisk.f l0_0 l0_1).bind fun bt660=>((impl_DiskOk.f l0_0 l0_1).bind fun t667=>(if t667=true then (impl_FallDisk.l0 k l1 a2 l0_1 (l0_1.length:Int) 0 bt660.1 bt660.2) else (some (bt660.1,bt660.2))))
theorem impl_FallDisk.calls (k:Nat) (A0_0:Option Addr) (c0_0:Nat) (l0_0:List ByteArray) (A0_1:Option Addr) (c0_1:Nat) (l0_1:List (S110)) (A1:Option Addr) (c1:Nat) (l1:List Bool) (a2:Int) (r1:List ByteArray) (r2:List (S110)) (w:World) (hr0_0:Kd.C Kd.string w A0_0 l0_0.length l0_0) (hc0_0:l0_0.length≤c0_0) (hr0_1:Kd.C k110 w A0_1 l0_1.length l0_1) (hc0_1:l0_1.length≤c0_1) (hr1:Kd.C Kd.bool w A1 l1.length l1) (hc1:l1.length≤c1) (h:impl_FallDisk.f k l0_0 l0_1 l1 a2=some (r1,r2)):
  Calls Tryz.prog 60 #[.agg #[.slice A0_0 l0_0.length c0_0,.slice A0_1 l0_1.length c0_1],.slice A1 l1.length c1,.int .i64 a2] w fun e w'=>∃v0_ v1_:Value,e= .returned (.agg #[v0_,v1_])∧Kd.R Kd.string 9 w' w.heap.size (fun _=>True) v0_ r1∧Kd.R k110 110 w' w.heap.size (fun _=>True) v1_ r2∧Below w.heap.size w w':=by
 have hu37:=Tryz.underlying37
 have hu110:=Tryz.underlying110
 have HR0_0:=zz hr0_0
 have HC0_0:=zz hc0_0
 clear hr0_0 hc0_0
 have HR0_1:=zz hr0_1
 have HC0_1:=zz hc0_1
 clear hr0_1 hc0_1
 have HR1:=zz hr1
 have HC1:=zz hc1
 clear hr1 hc1
 have HB:=zz (Below.refl w.heap.size w)
 have H:((impl_cloneDisk.f l0_0 l0_1).bind fun bt660=>((impl_DiskOk.f l0_0 l0_1).bind fun t667=>(if t667=true then (impl_FallDisk.l0 k l1 a2 l0_1 (l0_1.length:Int) 0 bt660.1 bt660.2) else (some (bt660.1,bt660.2)))))=some (r1,r2):=h
 clear h
 replace H:=Option.bind_eq_some_iff.mp H
 obtain ⟨⟨t660,t663⟩,A40,H⟩:=H
 replace H:((impl_DiskOk.f l0_0 l0_1).bind fun t667=>(if t667=true then (impl_FallDisk.l0 k l1 a2 l0_1 (l0_1.length:Int) 0 t660 t663) else (some (t660,t663))))=some (r1,r2):=H
 have A4:=zz A40
 clear A40
 replace H:=Option.bind_eq_some_iff.mp H
 obtain ⟨t667,A50,H⟩:=H
 replace H:(if t667=true then (impl_FallDisk.l0 k l1 a2 l0_1 (l0_1.length:Int) 0 t660 t663) else (some (t660,t663)))=some (r1,r2):=H
 have A5:=zz A50
 clear A50
 by_cases c6:t667=true
 ·subst c6
  have H1:(impl_FallDisk.l0 k l1 a2 l0_1 (l0_1.length:Int) 0 t660 t663)=some (r1,r2):=by rw [if_pos rfl] at H;exact H
  clear H
  have H:=H1
  clear H1
  have H':=zz H
  clear H
  go_enter Tryz.func60,Tryz.ntmps60
  go_wp2_with (first|((with_reducible refine zv (N:=3) rfl ?_);refine zE ?hg (N:=3) ?hd (cs:= #[.slice A0_0 l0_0.length c0_0,.slice A0_1 l0_1.length c0_1]) (t:=37) ?hr ?_;(case hd=>rfl);(case hg=>rfl);(case hr=>first|(go_simp;done)|(go_simp;rfl));intro gb658 hg w7 hbox hb;have n0_:=zz (zk zq1 hb);have n1_:=zz (hbox);have n2_:=zz ((by rw [hg];exact (zi zq1):w.heap.size≤gb658));have n3_:=zz ((by rw [hg];exact (zi zq1):w.heap.size≤gb658));clear HB;have HB:=n0_;have BK658:=n1_;have GW658:=n2_;have GE658:=n3_;clear n0_ n1_ n2_ n3_;clear hb hbox hg)|((with_reducible refine zv (N:=6) rfl ?_);refine zE ?hg (N:=6) ?hd (cs:= #[.slice none 0 0,.slice none 0 0]) (t:=37) ?hr ?_;(case hd=>rfl);(case hg=>rfl);(case hr=>first|(go_simp;done)|(go_simp;rfl));intro gb659 hg w8 hbox hb;have n0_:=zz (zu (g:=gb658) (o:= .cells #[.slice A0_0 l0_0.length c0_0,.slice A0_1 l0_1.length c0_1] 37 (0,0)) (zq0 BK658.out) hb);have n1_:=zz (zk (zq3 GE658.out) hb);have n2_:=zz (hbox);have n3_:=zz ((by rw [hg];exact (zi (zq3 GE658.out)):w.heap.size≤gb659));have n4_:=zz ((by rw [hg];exact (zi (zq3 GE658.out)):w.heap.size≤gb659));have n5_:=zz ((by rw [hg];exact Nat.ne_of_lt (zG (g:=gb658) (o:= .cells #[.slice A0_0 l0_0.length c0_0,.slice A0_1 l0_1.length c0_1] 37 (0,0)) (zq0 BK658.out)):gb658≠gb659));have n6_:=zz ((by rw [hg];exact Nat.ne_of_gt (zG (g:=gb658) (o:= .cells #[.slice A0_0 l0_0.length c0_0,.slice A0_1 l0_1.length c0_1] 37 (0,0)) (zq0 BK658.out)):gb659≠gb658));clear BK658;clear HB;have BK658:=n0_;have HB:=n1_;have BK659:=n2_;have GW659:=n3_;have GE659:=n4_;have NB658_659:=n5_;have NB659_658:=n6_;clear n0_ n1_ n2_ n3_ n4_ n5_ n6_;clear hb hbox hg;have hnb9:=NB658_659.out;have hnc9:=NB659_658.out;have hcz10_0:w8.cell? ⟨gb658,0,none⟩=some (.slice A0_0 l0_0.length c0_0):=(ze BK658.out 0).trans rfl;have hcz10_1:w8.cell? ⟨gb658,1,none⟩=some (.slice A0_1 l0_1.length c0_1):=(ze BK658.out 1).trans rfl;have hfz10_0:=zd BK658.out 0;have hfz10_1:=zd BK658.out 1)|((with_reducible refine zB (f:=46) rfl ?_);refine zO (some 12) rfl rfl Tryz.func46 zq7 rfl #[.agg #[.slice A0_0 l0_0.length c0_0,.slice A0_1 l0_1.length c0_1]] rfl zq4 ?_;(with_reducible refine (impl_cloneDisk.calls _ _ l0_0 _ _ l0_1 t660 t663 _ ?side1 ?side2 ?side3 ?side4 A4.out).mono ?_);(case side1=>repeat (first|exact (Kd.C_below HR0_0.out HB.out)|(with_reducible refine Kd.C_alloc ?_ _)|(with_reducible refine Kd.C_drewN ?_ _)|(with_reducible refine Kd.C_drew ?_)));(case side2=>exact HC0_0.out);(case side3=>repeat (first|exact (Kd.C_below HR0_1.out HB.out)|(with_reducible refine Kd.C_alloc ?_ _)|(with_reducible refine Kd.C_drewN ?_ _)|(with_reducible refine Kd.C_drew ?_)));(case side4=>exact HC0_1.out);rintro e w11 ⟨v661,v664,rfl,ho0,ho1,hb⟩;refine ⟨_,rfl,?_⟩;(first|have rs_v661:=zN (P:=Tryz.prog) ho0|have rs_v661:=zN (P:=Tryz.prog) (Kd.S_R ho0)|skip);(first|have rs_v664:=zN (P:=Tryz.prog) ho1|have rs_v664:=zN (P:=Tryz.prog) (Kd.S_R ho1)|skip);have n0_:=zz (Kd.R_lower ho0 (zi (zq2 GE658.out GE659.out)));have n1_:=zz (Kd.R_lower ho1 (zi (zq2 GE658.out GE659.out)));have n2_:=zz (zu (g:=gb658) (o:= .cells #[.slice A0_0 l0_0.length c0_0,.slice A0_1 l0_1.length c0_1] 37 (0,0)) (zq0 BK658.out) hb);have n3_:=zz (zu (g:=gb659) (o:= .cells #[.slice none 0 0,.slice none 0 0] 37 (0,0)) (zq0 BK659.out) hb);have n4_:=zz (zk (zq2 GE658.out GE659.out) hb);clear BK658;clear BK659;clear HB;have HO662:=n0_;have HO665:=n1_;have BK658:=n2_;have BK659:=n3_;have HB:=n4_;clear n0_ n1_ n2_ n3_ n4_;(try clear hb);(try clear hb2);(try clear hk);(try clear hi);(try clear ho0);(try clear ho1))|((with_reducible refine zv (N:=7) rfl ?_);refine zE ?hg (N:=7) ?hd (cs:= #[.slice none 0 0,.slice none 0 0]) (t:=37) ?hr ?_;(case hd=>rfl);(case hg=>rfl);(case hr=>first|(go_simp;done)|(go_simp;rfl));intro gb666 hg w12 hbox hb;have n0_:=zz (Kd.R_below (zq9 HO662.out) hb);have n1_:=zz (Kd.R_below (zq9 HO665.out) hb);have n2_:=zz (zu (g:=gb658) (o:= .cells #[.slice A0_0 l0_0.length c0_0,.slice A0_1 l0_1.length c0_1] 37 (0,0)) (zq0 BK658.out) hb);have n3_:=zz (zu (g:=gb659) (o:= .cells #[.slice none 0 0,.slice none 0 0] 37 (0,0)) (zq0 BK659.out) hb);have n4_:=zz (zk (zq2 GE658.out GE659.out) hb);have n5_:=zz (hbox);have n6_:=zz ((by rw [hg];exact (zi (zq2 GE658.out GE659.out)):w.heap.size≤gb666));have n7_:=zz ((by rw [hg];exact (zi (zq2 GE658.out GE659.out)):w.heap.size≤gb666));have n8_:=zz ((by rw [hg];exact Nat.ne_of_lt (zG (g:=gb658) (o:= .cells #[.slice A0_0 l0_0.length c0_0,.slice A0_1 l0_1.length c0_1] 37 (0,0)) (zq0 BK658.out)):gb658≠gb666));have n9_:=zz ((by rw [hg];exact Nat.ne_of_gt (zG (g:=gb658) (o:= .cells #[.slice A0_0 l0_0.length c0_0,.slice A0_1 l0_1.length c0_1] 37 (0,0)) (zq0 BK658.out)):gb666≠gb658));have n10_:=zz ((by rw [hg];exact Nat.ne_of_lt (zG (g:=gb659) (o:= .cells #[.slice none 0 0,.slice none 0 0] 37 (0,0)) (zq0 BK659.out)):gb659≠gb666));have n11_:=zz ((by rw [hg];exact Nat.ne_of_gt (zG (g:=gb659) (o:= .cells #[.slice none 0 0,.slice none 0 0] 37 (0,0)) (zq0 BK659.out)):gb666≠gb659));clear HO662;clear HO665;clear BK658;clear BK659;clear HB;have HO662:=n0_;have HO665:=n1_;have BK658:=n2_;have BK659:=n3_;have HB:=n4_;have BK666:=n5_;have GW666:=n6_;have GE666:=n7_;have NB658_666:=n8_;have NB666_658:=n9_;have NB659_666:=n10_;have NB666_659:=n11_;clear n0_ n1_ n2_ n3_ n4_ n5_ n6_ n7_ n8_ n9_ n10_ n11_;clear hb hbox hg;obtain ⟨Ao13,co13,eo13⟩:=Kd.R_slice HO662.out;subst eo13;have hnb14:=NB666_658.out;have hnc14:=NB658_666.out;have hnb15:=NB666_659.out;have hnc15:=NB659_666.out;have hcz16_0:w12.cell? ⟨gb666,0,none⟩=some (.slice none 0 0):=(ze BK666.out 0).trans rfl;have hcz16_1:w12.cell? ⟨gb666,1,none⟩=some (.slice none 0 0):=(ze BK666.out 1).trans rfl;have hfz16_0:=zd BK666.out 0;have hfz16_1:=zd BK666.out 1;obtain ⟨Ao17,co17,eo17⟩:=Kd.R_slice HO665.out;subst eo17;have hcz18_0:w12.cell? ⟨gb658,0,none⟩=some (.slice A0_0 l0_0.length c0_0):=(ze BK658.out 0).trans rfl;have hcz18_1:w12.cell? ⟨gb658,1,none⟩=some (.slice A0_1 l0_1.length c0_1):=(ze BK658.out 1).trans rfl;have hfz18_0:=zd BK658.out 0;have hfz18_1:=zd BK658.out 1)|((with_reducible refine zB (f:=103) rfl ?_);refine zO (some 14) rfl rfl Tryz.func103 zq7 rfl #[.agg #[.slice A0_0 l0_0.length c0_0,.slice A0_1 l0_1.length c0_1]] rfl zq4 ?_;(with_reducible refine (impl_DiskOk.calls _ _ l0_0 _ _ l0_1 true _ ?side1 ?side2 ?side3 ?side4 A5.out).mono ?_);(case side1=>exact Kd.C_below HR0_0.out (zq6 GE658.out GE659.out GE666.out));(case side2=>exact HC0_0.out);(case side3=>exact Kd.C_below HR0_1.out (zq6 GE658.out GE659.out GE666.out));(case side4=>exact HC0_1.out);rintro e w19 ⟨rfl,hb⟩;refine ⟨_,rfl,?_⟩;have n0_:=zz (Kd.R_below (zq34 HO662.out BK666.out) hb);have n1_:=zz (Kd.R_below (zq34 HO665.out BK666.out) hb);have n2_:=zz (zu (g:=gb658) (o:= .cells #[.slice A0_0 l0_0.length c0_0,.slice A0_1 l0_1.length c0_1] 37 (0,0)) (zq25 BK658.out) hb);have n3_:=zz (zu (g:=gb659) (o:= .cells #[.slice none 0 0,.slice none 0 0] 37 (0,0)) (zq26 BK659.out) hb);have n4_:=zz (zu (g:=gb666) (o:= .cells #[.slice Ao13 t660.length co13,.slice Ao17 t663.length co17] 37 (0,0)) (by (with_reducible repeat (first|refine zj ?_ _|refine zl ?_|refine zh ?_ _));refine zL (cs:= #[.slice Ao13 t660.length co13,.slice none 0 0]) ?_ 1 _ rfl;(with_reducible repeat (first|refine zj ?_ _|refine zl ?_|refine zh ?_ _));refine zL (cs:= #[.slice none 0 0,.slice none 0 0]) ?_ 0 _ rfl;(with_reducible repeat (first|refine zj ?_ _|refine zl ?_|refine zh ?_ _));exact BK666.out) hb);have n5_:=zz (zk (zq6 GE658.out GE659.out GE666.out) hb);clear HO662;clear HO665;clear BK658;clear BK659;clear BK666;clear HB;have HO662:=n0_;have HO665:=n1_;have BK658:=n2_;have BK659:=n3_;have BK666:=n4_;have HB:=n5_;clear n0_ n1_ n2_ n3_ n4_ n5_;(try clear hb);(try clear hb2);(try clear hk);(try clear hi);have hcz20_0:w19.cell? ⟨gb658,0,none⟩=some (.slice A0_0 l0_0.length c0_0):=(ze BK658.out 0).trans rfl;have hcz20_1:w19.cell? ⟨gb658,1,none⟩=some (.slice A0_1 l0_1.length c0_1):=(ze BK658.out 1).trans rfl;have hfz20_0:=zd BK658.out 0;have hfz20_1:=zd BK658.out 1))
  go_loopg [20] k (fun kq v20 w'=>∃(x20_1:Int) (x667000_1:List ByteArray) (u667000:Value),v20= .int .i64 x20_1∧Z0 (impl_FallDisk.l0 kq l1 a2 l0_1 (l0_1.length:Int) x20_1 x667000_1 t663=some (r1,r2))∧Z0 (kq≤k)∧Z0 (Kd.R Kd.string 9 w' w.heap.size (fun _=>True) u667000 x667000_1)∧Z0 (Kd.R k110 110 w' w.heap.size (fun _=>True) (.slice Ao17 t663.length co17) t663)∧Z0 (w'.heap[gb658]?=some (.cells #[(.slice A0_0 l0_0.length c0_0),(.slice A0_1 l0_1.length c0_1)] 37 (0,0)))∧Z0 (w'.heap[gb659]?=some (.cells #[(.slice none 0 0),(.slice none 0 0)] 37 (0,0)))∧Z0 (w'.heap[gb666]?=some (.cells #[u667000,(.slice Ao17 t663.length co17)] 37 (0,0)))∧Z0 (Below w.heap.size w w'))
  case atStart=>exact ⟨(0),(t660),(.slice Ao13 t660.length co13),zq12,H',⟨Nat.le_refl _⟩,⟨by (with_reducible repeat (first|apply Kd.R_alloc|apply Kd.R_drewN|apply Kd.R_drew));exact HO662.out⟩,⟨by (with_reducible repeat (first|apply Kd.R_alloc|apply Kd.R_drewN|apply Kd.R_drew));exact HO665.out⟩,⟨by (with_reducible repeat (first|refine zj ?_ _|refine zl ?_|refine zh ?_ _));exact BK658.out⟩,⟨by (with_reducible repeat (first|refine zj ?_ _|refine zl ?_|refine zh ?_ _));exact BK659.out⟩,⟨by (with_reducible repeat (first|refine zj ?_ _|refine zl ?_|refine zh ?_ _));exact BK666.out⟩,⟨by repeat (first|(with_reducible first|exact HB.out|apply zg|apply zf|apply zm|refine zr ?_ GE658.out|refine zr ?_ GE659.out|refine zr ?_ GE666.out)|exact HB.out)⟩⟩
  case round=>
   clear H'
   try clear c1
   try clear c6
   try clear hcz10_0
   try clear hcz10_1
   try clear hcz16_0
   try clear hcz16_1
   try clear hcz18_0
   try clear hcz18_1
   try clear hcz20_0
   try clear hcz20_1
   try clear hfz10_0
   try clear hfz10_1
   try clear hfz16_0
   try clear hfz16_1
   try clear hfz18_0
   try clear hfz18_1
   try clear hfz20_0
   try clear hfz20_1
   obtain ⟨x20_1,x667000_1,u667000,rfl,HA,HK1,HO_667000,HO_667001,BK658,BK659,BK666,HB⟩:=hrel
   cases gk with
   |zero=>exact absurd HA.out (by simp [impl_FallDisk.l0])
   |succ k1=>
    have H:=HA.out
    clear HA
    simp only [impl_FallDisk.l0] at H
    by_cases c21:x20_1<(l0_1.length:Int)
    ·rw [if_pos c21] at H
     have c21b0:decide (x20_1<(l0_1.length:Int))=true:=decide_eq_true c21
     clear c21
     by_cases c22:0≤x20_1
     ·rw [if_pos c22] at H
      have c22b0:decide (0≤x20_1)=true:=decide_eq_true c22
      clear c22
      by_cases c23:x20_1<(l0_1.length:Int)
      ·rw [if_pos c23] at H
       have c23b0:decide (x20_1<(l0_1.length:Int))=true:=decide_eq_true c23
       clear c23
       have HC24:=zz H
       clear H
       have p668:0≤(x20_1:Int):=of_decide_eq_true zq11
       have q668:x20_1<(l0_1.length:Int):=of_decide_eq_true zq11
       obtain ⟨ad668,e668,hx668_0,hx668_1⟩:=zla HR0_1.out x20_1 p668 q668
       cases e668
       replace hx668_0:=(HB.out.cell (World.block_lt_of_cell? w _ hx668_0)).trans hx668_0
       replace hx668_1:=(HB.out.cell (World.block_lt_of_cell? w _ hx668_1)).trans hx668_1
       replace p668:=eq_true p668
       replace q668:=eq_true q668
       go_upto_region 7 with (first|((with_reducible refine zv (N:=9) rfl ?_);refine zE ?hg (N:=9) ?hd (cs:= #[.int .i64 0,.string (⟨#[]⟩:ByteArray)]) (t:=110) ?hr ?_;(case hd=>rfl);(case hg=>rfl);(case hr=>first|(go_simp;done)|(go_simp;rfl));intro gb669 hg w25 hbox hb;have n0_:=zz (Kd.R_below (zq9 HO_667000.out) hb);have n1_:=zz (Kd.R_below (Kd.R_elderB (zq9 HO_667001.out) gb669 (Nat.le_of_eq hg.symm)) hb);have n2_:=zz (zu (g:=gb658) (o:= .cells #[.slice A0_0 l0_0.length c0_0,.slice (some ad668) l0_1.length c0_1] 37 (0,0)) (zq0 BK658.out) hb);have n3_:=zz (zu (g:=gb659) (o:= .cells #[.slice none 0 0,.slice none 0 0] 37 (0,0)) (zq0 BK659.out) hb);have n4_:=zz (zu (g:=gb666) (o:= .cells #[u667000,.slice Ao17 t663.length co17] 37 (0,0)) (zq0 BK666.out) hb);have n5_:=zz (zk (zq6 GE658.out GE659.out GE666.out) hb);have n6_:=zz (hbox);have n7_:=zz ((by rw [hg];exact (zi (zq6 GE658.out GE659.out GE666.out)):w.heap.size≤gb669));have n8_:=zz ((by rw [hg];exact (zi (zq6 GE658.out GE659.out GE666.out)):w.heap.size≤gb669));have n9_:=zz ((by rw [hg];exact Nat.ne_of_lt (zG (g:=gb658) (o:= .cells #[.slice A0_0 l0_0.length c0_0,.slice (some ad668) l0_1.length c0_1] 37 (0,0)) (zq0 BK658.out)):gb658≠gb669));have n10_:=zz ((by rw [hg];exact Nat.ne_of_gt (zG (g:=gb658) (o:= .cells #[.slice A0_0 l0_0.length c0_0,.slice (some ad668) l0_1.length c0_1] 37 (0,0)) (zq0 BK658.out)):gb669≠gb658));have n11_:=zz ((by rw [hg];exact Nat.ne_of_lt (zG (g:=gb659) (o:= .cells #[.slice none 0 0,.slice none 0 0] 37 (0,0)) (zq0 BK659.out)):gb659≠gb669));have n12_:=zz ((by rw [hg];exact Nat.ne_of_gt (zG (g:=gb659) (o:= .cells #[.slice none 0 0,.slice none 0 0] 37 (0,0)) (zq0 BK659.out)):gb669≠gb659));have n13_:=zz ((by rw [hg];exact Nat.ne_of_lt (zG (g:=gb666) (o:= .cells #[u667000,.slice Ao17 t663.length co17] 37 (0,0)) (zq0 BK666.out)):gb666≠gb669));have n14_:=zz ((by rw [hg];exact Nat.ne_of_gt (zG (g:=gb666) (o:= .cells #[u667000,.slice Ao17 t663.length co17] 37 (0,0)) (zq0 BK666.out)):gb669≠gb666));clear HO_667000;clear HO_667001;clear BK658;clear BK659;clear BK666;clear HB;have HO_667000:=n0_;have HO_667001:=n1_;have BK658:=n2_;have BK659:=n3_;have BK666:=n4_;have HB:=n5_;have BK669:=n6_;have GW669:=n7_;have GE669:=n8_;have NB658_669:=n9_;have NB669_658:=n10_;have NB659_669:=n11_;have NB669_659:=n12_;have NB666_669:=n13_;have NB669_666:=n14_;clear n0_ n1_ n2_ n3_ n4_ n5_ n6_ n7_ n8_ n9_ n10_ n11_ n12_ n13_ n14_;clear hb hbox hg;have hnb26:=NB669_658.out;have hnc26:=NB658_669.out;have hnb27:=NB669_659.out;have hnc27:=NB659_669.out;have hnb28:=NB669_666.out;have hnc28:=NB666_669.out;have hcz29_0:w25.cell? ⟨gb669,0,none⟩=some (.int .i64 0):=(ze BK669.out 0).trans rfl;have hcz29_1:w25.cell? ⟨gb669,1,none⟩=some (.string (⟨#[]⟩:ByteArray)):=(ze BK669.out 1).trans rfl;have hfz29_0:=zd BK669.out 0;have hfz29_1:=zd BK669.out 1))
       (try simp only [Act.put,List.setIfInBounds_toArray,List.set_cons_zero,List.set_cons_succ])
       go_cut [35] (fun v35 wc=>∃(kq:Nat) (x35_23:Bool),v35= .bool x35_23∧Z0 (impl_FallDisk.j1 kq l1 a2 x20_1 l0_1 (l0_1.length:Int) x20_1 x35_23 x667000_1 t663 ((zn l0_1 x20_1).f0) ((zn l0_1 x20_1).f1)=some (r1,r2))∧Z0 (kq≤k1)∧Z0 (Kd.R Kd.string 9 wc w.heap.size (fun _=>True) u667000 x667000_1)∧Z0 (Kd.R k110 110 wc w.heap.size (fun k_=>k_≠gb669) (.slice Ao17 t663.length co17) t663)∧Z0 (wc.heap[gb658]?=some (.cells #[(.slice A0_0 l0_0.length c0_0),(.slice (some ad668) l0_1.length c0_1)] 37 (0,0)))∧Z0 (wc.heap[gb659]?=some (.cells #[(.slice none 0 0),(.slice none 0 0)] 37 (0,0)))∧Z0 (wc.heap[gb666]?=some (.cells #[u667000,(.slice Ao17 t663.length co17)] 37 (0,0)))∧Z0 (wc.heap[gb669]?=some (.cells #[.int .i64 ((zn l0_1 x20_1).f0),.string ((zn l0_1 x20_1).f1)] 110 (0,0)))∧Z0 (Below w.heap.size w wc))
       case first=>
        have H:=HC24.out
        clear HC24
        by_cases c30:x20_1≥(l1.length:Int)
        ·rw [if_pos c30] at H
         have c30b0:decide ((l1.length:Int)≤x20_1)=true:=decide_eq_true c30
         clear c30
         (first|rw [c30b0]|(simp only [zA,zF];rw [c30b0])|skip)
         have H':=zz H
         clear H
         go_wp2
         go_meet
         case rel=>exact ⟨_,(true),zq12,H',⟨by have:=HK1.out;first|omega|exact Nat.le_refl _⟩,⟨by (with_reducible repeat (first|apply Kd.R_alloc|apply Kd.R_drewN|apply Kd.R_drew));exact Kd.R_mono (Kd.R_far (p:=⟨gb669,1,none⟩) (Kd.R_far (p:=⟨gb669,0,none⟩) (Kd.R_types HO_667000.out BK669.out zq14) (fun _ hk=>hk.2) (.int .i64 ((zn l0_1 x20_1).f0))) (fun _ hk=>hk.2) (.string ((zn l0_1 x20_1).f1))) (fun _ hk=>trivial)⟩,⟨by (with_reducible repeat (first|apply Kd.R_alloc|apply Kd.R_drewN|apply Kd.R_drew));exact Kd.R_mono (Kd.R_far (p:=⟨gb669,1,none⟩) (Kd.R_far (p:=⟨gb669,0,none⟩) (Kd.R_mono HO_667001.out (fun k_ hk=>(⟨hk,hk.2⟩:_∧k_≠gb669))) (fun _ hk=>hk.2) (.int .i64 ((zn l0_1 x20_1).f0))) (fun _ hk=>hk.2) (.string ((zn l0_1 x20_1).f1))) (fun _ hk=>hk.1.2)⟩,⟨by (with_reducible repeat (first|refine zj ?_ _|refine zl ?_|refine zh ?_ _));refine zH ?_ NB658_669.out _;(with_reducible repeat (first|refine zj ?_ _|refine zl ?_|refine zh ?_ _));refine zH ?_ NB658_669.out _;(with_reducible repeat (first|refine zj ?_ _|refine zl ?_|refine zh ?_ _));exact BK658.out⟩,⟨by (with_reducible repeat (first|refine zj ?_ _|refine zl ?_|refine zh ?_ _));refine zH ?_ NB659_669.out _;(with_reducible repeat (first|refine zj ?_ _|refine zl ?_|refine zh ?_ _));refine zH ?_ NB659_669.out _;(with_reducible repeat (first|refine zj ?_ _|refine zl ?_|refine zh ?_ _));exact BK659.out⟩,⟨by (with_reducible repeat (first|refine zj ?_ _|refine zl ?_|refine zh ?_ _));refine zH ?_ NB666_669.out _;(with_reducible repeat (first|refine zj ?_ _|refine zl ?_|refine zh ?_ _));refine zH ?_ NB666_669.out _;(with_reducible repeat (first|refine zj ?_ _|refine zl ?_|refine zh ?_ _));exact BK666.out⟩,⟨by (with_reducible repeat (first|refine zj ?_ _|refine zl ?_|refine zh ?_ _));refine zL (cs:= #[.int .i64 ((zn l0_1 x20_1).f0),.string (⟨#[]⟩:ByteArray)]) ?_ 1 _ rfl;(with_reducible repeat (first|refine zj ?_ _|refine zl ?_|refine zh ?_ _));refine zL (cs:= #[.int .i64 0,.string (⟨#[]⟩:ByteArray)]) ?_ 0 _ rfl;(with_reducible repeat (first|refine zj ?_ _|refine zl ?_|refine zh ?_ _));exact BK669.out⟩,⟨by repeat (first|(with_reducible first|exact HB.out|apply zg|apply zf|apply zm|refine zr ?_ GE658.out|refine zr ?_ GE659.out|refine zr ?_ GE666.out|refine zr ?_ GE669.out)|exact HB.out)⟩⟩
        ·rw [if_neg c30] at H
         have c30b0:decide ((l1.length:Int)≤x20_1)=false:=decide_eq_false c30
         clear c30
         (first|rw [c30b0]|(simp only [zA,zF];rw [c30b0])|skip)
         by_cases c31:x20_1<(l1.length:Int)
         ·rw [if_pos c31] at H
          have c31b0:decide (x20_1<(l1.length:Int))=true:=decide_eq_true c31
          clear c31
          have H':=zz H
          clear H
          have p670:0≤(x20_1:Int):=of_decide_eq_true zq11
          have q670:x20_1<(l1.length:Int):=of_decide_eq_true zq11
          obtain ⟨ad670,e670,hx670_0⟩:=Kd.at_bool HR1.out x20_1 p670 q670
          cases e670
          have hn670_0:ad670.block≠gb669:=Nat.ne_of_lt (Nat.lt_of_lt_of_le (by have:=World.block_lt_of_cell? _ _ hx670_0;first|rwa [zCb] at this|exact this) GW669.out)
          have hn670_1:ad670.block≠gb669:=Nat.ne_of_lt (Nat.lt_of_lt_of_le (by have:=World.block_lt_of_cell? _ _ hx670_0;first|rwa [zCb] at this|exact this) GW669.out)
          replace hx670_0:=(HB.out.cell (World.block_lt_of_cell? w _ hx670_0)).trans hx670_0
          replace hx670_0:=(zYa (p:=⟨gb669,0,none⟩) (by first|(rw [zCb];exact hn670_0)|(show (Addr.add _ _).block≠_;rw [zCb];exact hn670_0)|exact hn670_0) (.int .i64 ((zn l0_1 x20_1).f0))).trans hx670_0
          replace hx670_0:=(zYa (p:=⟨gb669,1,none⟩) (by first|(rw [zCb];exact hn670_1)|(show (Addr.add _ _).block≠_;rw [zCb];exact hn670_1)|exact hn670_1) (.string ((zn l0_1 x20_1).f1))).trans hx670_0
          clear hn670_0
          clear hn670_1
          replace p670:=eq_true p670
          replace q670:=eq_true q670
          go_wp2
          go_meet
          case rel=>exact ⟨_,(!(zLa false l1 x20_1)),zq12,H',⟨by have:=HK1.out;first|omega|exact Nat.le_refl _⟩,⟨by (with_reducible repeat (first|apply Kd.R_alloc|apply Kd.R_drewN|apply Kd.R_drew));exact Kd.R_mono (Kd.R_far (p:=⟨gb669,1,none⟩) (Kd.R_far (p:=⟨gb669,0,none⟩) (Kd.R_types HO_667000.out BK669.out zq14) (fun _ hk=>hk.2) (.int .i64 ((zn l0_1 x20_1).f0))) (fun _ hk=>hk.2) (.string ((zn l0_1 x20_1).f1))) (fun _ hk=>trivial)⟩,⟨by (with_reducible repeat (first|apply Kd.R_alloc|apply Kd.R_drewN|apply Kd.R_drew));exact Kd.R_mono (Kd.R_far (p:=⟨gb669,1,none⟩) (Kd.R_far (p:=⟨gb669,0,none⟩) (Kd.R_mono HO_667001.out (fun k_ hk=>(⟨hk,hk.2⟩:_∧k_≠gb669))) (fun _ hk=>hk.2) (.int .i64 ((zn l0_1 x20_1).f0))) (fun _ hk=>hk.2) (.string ((zn l0_1 x20_1).f1))) (fun _ hk=>hk.1.2)⟩,⟨by (with_reducible repeat (first|refine zj ?_ _|refine zl ?_|refine zh ?_ _));refine zH ?_ NB658_669.out _;(with_reducible repeat (first|refine zj ?_ _|refine zl ?_|refine zh ?_ _));refine zH ?_ NB658_669.out _;(with_reducible repeat (first|refine zj ?_ _|refine zl ?_|refine zh ?_ _));exact BK658.out⟩,⟨by (with_reducible repeat (first|refine zj ?_ _|refine zl ?_|refine zh ?_ _));refine zH ?_ NB659_669.out _;(with_reducible repeat (first|refine zj ?_ _|refine zl ?_|refine zh ?_ _));refine zH ?_ NB659_669.out _;(with_reducible repeat (first|refine zj ?_ _|refine zl ?_|refine zh ?_ _));exact BK659.out⟩,⟨by (with_reducible repeat (first|refine zj ?_ _|refine zl ?_|refine zh ?_ _));refine zH ?_ NB666_669.out _;(with_reducible repeat (first|refine zj ?_ _|refine zl ?_|refine zh ?_ _));refine zH ?_ NB666_669.out _;(with_reducible repeat (first|refine zj ?_ _|refine zl ?_|refine zh ?_ _));exact BK666.out⟩,⟨by (with_reducible repeat (first|refine zj ?_ _|refine zl ?_|refine zh ?_ _));refine zL (cs:= #[.int .i64 ((zn l0_1 x20_1).f0),.string (⟨#[]⟩:ByteArray)]) ?_ 1 _ rfl;(with_reducible repeat (first|refine zj ?_ _|refine zl ?_|refine zh ?_ _));refine zL (cs:= #[.int .i64 0,.string (⟨#[]⟩:ByteArray)]) ?_ 0 _ rfl;(with_reducible repeat (first|refine zj ?_ _|refine zl ?_|refine zh ?_ _));exact BK669.out⟩,⟨by repeat (first|(with_reducible first|exact HB.out|apply zg|apply zf|apply zm|refine zr ?_ GE658.out|refine zr ?_ GE659.out|refine zr ?_ GE666.out|refine zr ?_ GE669.out)|exact HB.out)⟩⟩
         ·rw [if_neg c31] at H
          exact absurd H zq15
       case rest=>
        clear HC24
        try clear c1
        try clear c6
        try clear c21
        try clear c21b0
        try clear c22
        try clear c22b0
        try clear c23
        try clear c23b0
        try clear c30
        try clear c30b0
        try clear c31
        try clear c31b0
        try clear hcz10_0
        try clear hcz10_1
        try clear hcz16_0
        try clear hcz16_1
        try clear hcz18_0
        try clear hcz18_1
        try clear hcz20_0
        try clear hcz20_1
        try clear hcz29_0
        try clear hcz29_1
        try clear hfz10_0
        try clear hfz10_1
        try clear hfz16_0
        try clear hfz16_1
        try clear hfz18_0
        try clear hfz18_1
        try clear hfz20_0
        try clear hfz20_1
        try clear hfz29_0
        try clear hfz29_1
        try clear hx668_0
        try clear hx668_1
        try clear hx670_0
        try clear p668
        try clear p670
        try clear q668
        try clear q670
        obtain ⟨kq,x35_23,rfl,HA,HJ23,HO_667000,HO_667001,BK658,BK659,BK666,BK669,HB⟩:=hcut
        cases kq with
        |zero=>exact absurd HA.out (by simp [impl_FallDisk.j1])
        |succ kj23=>
         have H:=HA.out
         clear HA
         simp only [impl_FallDisk.j1] at H
         by_cases c32:x35_23=true
         ·subst c32
          have H1:(impl_FallDisk.l0 kj23 l1 a2 l0_1 (l0_1.length:Int) (wrap64 (x20_1+1)) x667000_1 t663)=some (r1,r2):=by rw [if_pos rfl] at H;exact H
          clear H
          have H:=H1
          clear H1
          have H':=zz H
          clear H
          go_wp2
          go_roundg kj23
          case measure=>have:=HK1.out;have:=HJ23.out;omega
          case rel=>exact ⟨(wrap64 (x20_1+1)),(x667000_1),(u667000),zq12,H',⟨by have:=HK1.out;have:=HJ23.out;omega⟩,⟨by (with_reducible repeat (first|apply Kd.R_alloc|apply Kd.R_drewN|apply Kd.R_drew));exact HO_667000.out⟩,⟨by (with_reducible repeat (first|apply Kd.R_alloc|apply Kd.R_drewN|apply Kd.R_drew));exact Kd.R_mono HO_667001.out (fun _ hk=>trivial)⟩,⟨by (with_reducible repeat (first|refine zj ?_ _|refine zl ?_|refine zh ?_ _));exact BK658.out⟩,⟨by (with_reducible repeat (first|refine zj ?_ _|refine zl ?_|refine zh ?_ _));exact BK659.out⟩,⟨by (with_reducible repeat (first|refine zj ?_ _|refine zl ?_|refine zh ?_ _));exact BK666.out⟩,⟨by repeat (first|(with_reducible first|exact HB.out|apply zg|apply zf|apply zm|refine zr ?_ GE658.out|refine zr ?_ GE659.out|refine zr ?_ GE666.out|refine zr ?_ GE669.out)|exact HB.out)⟩⟩
         ·replace c32:=Bool.eq_false_iff.mpr c32
          subst c32
          have H1:(if x20_1=a2 then (if 0≤(wrap64 ((((zn l0_1 x20_1).f1).size:Int)/2)) then (if (wrap64 ((((zn l0_1 x20_1).f1).size:Int)/2))≤(((zn l0_1 x20_1).f1).size:Int) then (if 0≤((zn l0_1 x20_1).f0) then (if ((zn l0_1 x20_1).f0)<(x667000_1.length:Int) then (impl_FallDisk.l0 kj23 l1 a2 l0_1 (l0_1.length:Int) (wrap64 (x20_1+1)) (x667000_1.set (((zn l0_1 x20_1).f0):Int).toNat (((zn l0_1 x20_1).f1).extract 0 ((wrap64 ((((zn l0_1 x20_1).f1).size:Int)/2)):Int).toNat)) t663) else (none)) else (none)) else (none)) else (none)) else (if 0≤((zn l0_1 x20_1).f0) then (if ((zn l0_1 x20_1).f0)<(x667000_1.length:Int) then (impl_FallDisk.l0 kj23 l1 a2 l0_1 (l0_1.length:Int) (wrap64 (x20_1+1)) (x667000_1.set (((zn l0_1 x20_1).f0):Int).toNat ((zn l0_1 x20_1).f1)) t663) else (none)) else (none)))=some (r1,r2):=by rw [if_neg (show ¬(false=true) by decide)] at H;exact H
          clear H
          have H:=H1
          clear H1
          by_cases c33:x20_1=a2
          ·rw [if_pos c33] at H
           have c33b0:(x20_1==a2)=true:=beq_iff_eq.mpr c33
           have c33b1:(x20_1 !=a2)=false:=bne_eq_false_iff_eq.mpr c33
           clear c33
           obtain ⟨ji34,hji34⟩:∃j_:Int,(wrap64 ((((zn l0_1 x20_1).f1).size:Int)/2))=j_:=⟨_,rfl⟩
           replace H:(if 0≤(ji34) then (if (ji34)≤(((zn l0_1 x20_1).f1).size:Int) then (if 0≤((zn l0_1 x20_1).f0) then (if ((zn l0_1 x20_1).f0)<(x667000_1.length:Int) then (impl_FallDisk.l0 kj23 l1 a2 l0_1 (l0_1.length:Int) (wrap64 (x20_1+1)) (x667000_1.set (((zn l0_1 x20_1).f0):Int).toNat (((zn l0_1 x20_1).f1).extract 0 ((ji34):Int).toNat)) t663) else (none)) else (none)) else (none)) else (none))=some (r1,r2):=by first|(rw [hji34] at H;exact H)|(simp only [hji34] at H ⊢;exact H)
           have hji34w:(IntKind.i64.wrap ((((zn l0_1 x20_1).f1).size:Int)/2))=ji34:=(zA _).trans hji34
           by_cases c35:0≤(ji34)
           ·rw [if_pos c35] at H
            have c35b0:=eq_true c35
            have c35b1:decide (0≤(ji34))=true:=decide_eq_true c35
            clear c35
            by_cases c36:(ji34)≤(((zn l0_1 x20_1).f1).size:Int)
            ·rw [if_pos c36] at H
             have c36b0:=eq_true c36
             have c36b1:decide ((ji34)≤(((zn l0_1 x20_1).f1).size:Int))=true:=decide_eq_true c36
             clear c36
             by_cases c37:0≤((zn l0_1 x20_1).f0)
             ·rw [if_pos c37] at H
              have c37b0:decide (0≤((zn l0_1 x20_1).f0))=true:=decide_eq_true c37
              clear c37
              by_cases c38:((zn l0_1 x20_1).f0)<(x667000_1.length:Int)
              ·rw [if_pos c38] at H
               have c38b0:decide (((zn l0_1 x20_1).f0)<(x667000_1.length:Int))=true:=decide_eq_true c38
               clear c38
               obtain ⟨y671,hy671⟩:∃y_:List ByteArray,y_=(x667000_1.set (((zn l0_1 x20_1).f0):Int).toNat (((zn l0_1 x20_1).f1).extract 0 ((ji34):Int).toNat)):=⟨_,rfl⟩
               replace H:(impl_FallDisk.l0 kj23 l1 a2 l0_1 (l0_1.length:Int) (wrap64 (x20_1+1)) y671 t663)=some (r1,r2):=by first|(rw [hy671];with_reducible exact H)|(have H2_:=(Option.bind_some _ _).symm.trans H;rw [hy671];with_reducible exact H2_)|(have H2_:=(Option.bind_some _ _).symm.trans H;with_reducible exact H2_)|with_reducible exact H|(rw [hy671];exact H)|exact H
               have Ny671:=zz hy671
               clear hy671
               have H':=zz H
               clear H
               have hnb40:=NB669_658.out
               have hnc40:=NB658_669.out
               have hnb41:=NB669_659.out
               have hnc41:=NB659_669.out
               have hnb42:=NB669_666.out
               have hnc42:=NB666_669.out
               have hcz43_0:wc.cell? ⟨gb669,0,none⟩=some (.int .i64 ((zn l0_1 x20_1).f0)):=(ze BK669.out 0).trans rfl
               have hcz43_1:wc.cell? ⟨gb669,1,none⟩=some (.string ((zn l0_1 x20_1).f1)):=(ze BK669.out 1).trans rfl
               have hfz43_0:=zd BK669.out 0
               have hfz43_1:=zd BK669.out 1
               have hnb44:=NB666_658.out
               have hnc44:=NB658_666.out
               have hnb45:=NB666_659.out
               have hnc45:=NB659_666.out
               have hcz46_0:wc.cell? ⟨gb666,0,none⟩=some (u667000):=(ze BK666.out 0).trans rfl
               have hcz46_1:wc.cell? ⟨gb666,1,none⟩=some (.slice Ao17 t663.length co17):=(ze BK666.out 1).trans rfl
               have hfz46_0:=zd BK666.out 0
               have hfz46_1:=zd BK666.out 1
               have p39:0≤(((zn l0_1 x20_1).f0):Int):=of_decide_eq_true zq11
               have q39:(((zn l0_1 x20_1).f0):Int)<((x667000_1.length:Int):Int):=of_decide_eq_true zq11
               obtain ⟨go39,co39,eo39,gb39,gl39,cl39,HG39⟩:=Kd.R_form HO_667000.out zq5
               (first|cases eo39|(injection eo39 with ea_ en_ ec_;(first|subst ea_|(injection ea_ with ea_;subst ea_));subst ec_;clear en_))
               have GB39:=zz gb39
               have GG39:=zz HG39
               clear gb39 gl39 HG39
               obtain ⟨hx39_0,hf39_0⟩:=Kd.R_celln (⟨#[]⟩:ByteArray) HO_667000.out (((zn l0_1 x20_1).f0):Int) p39 q39
               replace p39:=eq_true p39
               replace q39:=eq_true q39
               have HP47:=Kd.R_putg HO_667000.out (((zn l0_1 x20_1).f0):Int) (((zn l0_1 x20_1).f1).extract 0 ((ji34):Int).toNat)
               go_wp2_with (first|((with_reducible refine zC (t:=9) (p:=51) rfl ?_);refine zca (t:=9) (p:=51) (v:= ?vo_w48) (w1:=(wc.setCell ⟨go39,(((zn l0_1 x20_1).f0):Int).toNat,none⟩ (.string (((zn l0_1 x20_1).f1).extract 0 ((ji34):Int).toNat)))) ?hg ?ho ?hn ?hr ?_;(case ho=>rfl);(case hg=>rfl);(case hn=>rfl);(case hr=>first|(go_simp;done)|(go_simp;rfl));intro w48 hw;have hg:wc.grownBy w48 (some go39):=(by rw [hw];exact HP47.2);have hp_:Kd.R Kd.string 9 w48 w.heap.size (fun _=>True) (.slice (some ⟨go39,0,none⟩) x667000_1.length co39) y671:=(by rw [hw,Ny671.out];exact HP47.1);clear HP47;have n0_:=zz (hp_);have n1_:=zz (Kd.R_over' (v:=(.slice (some ⟨go39,0,none⟩) x667000_1.length co39)) (zq9 HO_667001.out) (Kd.R_typed HO_667000.out) zq14 hg);have n2_:=zz (zI (g:=gb658) (o:= .cells #[.slice A0_0 l0_0.length c0_0,.slice (some ad668) l0_1.length c0_1] 37 (0,0)) (zq0 BK658.out) hg (Kd.R_ne HO_667000.out BK658.out zq14));have n3_:=zz (zI (g:=gb659) (o:= .cells #[.slice none 0 0,.slice none 0 0] 37 (0,0)) (zq0 BK659.out) hg (Kd.R_ne HO_667000.out BK659.out zq14));have n4_:=zz (zI (g:=gb666) (o:= .cells #[.slice (some ⟨go39,0,none⟩) x667000_1.length co39,.slice Ao17 t663.length co17] 37 (0,0)) (zq0 BK666.out) hg (Kd.R_ne HO_667000.out BK666.out zq14));have n5_:=zz (zI (g:=gb669) (o:= .cells #[.int .i64 ((zn l0_1 x20_1).f0),.string ((zn l0_1 x20_1).f1)] 110 (0,0)) (zq0 BK669.out) hg (Kd.R_ne HO_667000.out BK669.out zq14));have n6_:=zz ((by rw [hw];exact zr (HB.out) GB39.out:Below w.heap.size w w48));clear HO_667000;clear HO_667001;clear BK658;clear BK659;clear BK666;clear BK669;clear HB;have HO_667000:=n0_;have HO_667001:=n1_;have BK658:=n2_;have BK659:=n3_;have BK666:=n4_;have BK669:=n5_;have HB:=n6_;clear n0_ n1_ n2_ n3_ n4_ n5_ n6_;clear hg hw hp_))
               go_roundg kj23
               case measure=>have:=HK1.out;have:=HJ23.out;omega
               case rel=>exact ⟨(wrap64 (x20_1+1)),(y671),(.slice (some ⟨go39,0,none⟩) x667000_1.length co39),zq12,H',⟨by have:=HK1.out;have:=HJ23.out;omega⟩,⟨by (with_reducible repeat (first|apply Kd.R_alloc|apply Kd.R_drewN|apply Kd.R_drew));exact HO_667000.out⟩,⟨by (with_reducible repeat (first|apply Kd.R_alloc|apply Kd.R_drewN|apply Kd.R_drew));exact Kd.R_mono HO_667001.out (fun _ hk=>trivial)⟩,⟨by (with_reducible repeat (first|refine zj ?_ _|refine zl ?_|refine zh ?_ _));exact BK658.out⟩,⟨by (with_reducible repeat (first|refine zj ?_ _|refine zl ?_|refine zh ?_ _));exact BK659.out⟩,⟨by (with_reducible repeat (first|refine zj ?_ _|refine zl ?_|refine zh ?_ _));exact BK666.out⟩,⟨by repeat (first|(with_reducible first|exact HB.out|apply zg|apply zf|apply zm|refine zr ?_ GE658.out|refine zr ?_ GE659.out|refine zr ?_ GE666.out|refine zr ?_ GE669.out)|exact HB.out)⟩⟩
              ·rw [if_neg c38] at H
               exact absurd H zq15
             ·rw [if_neg c37] at H
              exact absurd H zq15
            ·rw [if_neg c36] at H
             exact absurd H zq15
           ·rw [if_neg c35] at H
            exact absurd H zq15
          ·rw [if_neg c33] at H
           have c33b0:(x20_1==a2)=false:=beq_eq_false_iff_ne.mpr c33
           have c33b1:(x20_1 !=a2)=true:=bne_iff_ne.mpr c33
           by_cases c49:0≤((zn l0_1 x20_1).f0)
           ·rw [if_pos c49] at H
            have c49b0:decide (0≤((zn l0_1 x20_1).f0))=true:=decide_eq_true c49
            clear c49
            by_cases c50:((zn l0_1 x20_1).f0)<(x667000_1.length:Int)
            ·rw [if_pos c50] at H
             have c50b0:decide (((zn l0_1 x20_1).f0)<(x667000_1.length:Int))=true:=decide_eq_true c50
             clear c50
             obtain ⟨y672,hy672⟩:∃y_:List ByteArray,y_=(x667000_1.set (((zn l0_1 x20_1).f0):Int).toNat ((zn l0_1 x20_1).f1)):=⟨_,rfl⟩
             replace H:(impl_FallDisk.l0 kj23 l1 a2 l0_1 (l0_1.length:Int) (wrap64 (x20_1+1)) y672 t663)=some (r1,r2):=by first|(rw [hy672];with_reducible exact H)|(have H2_:=(Option.bind_some _ _).symm.trans H;rw [hy672];with_reducible exact H2_)|(have H2_:=(Option.bind_some _ _).symm.trans H;with_reducible exact H2_)|with_reducible exact H|(rw [hy672];exact H)|exact H
             have Ny672:=zz hy672
             clear hy672
             have H':=zz H
             clear H
             have hnb52:=NB669_658.out
             have hnc52:=NB658_669.out
             have hnb53:=NB669_659.out
             have hnc53:=NB659_669.out
             have hnb54:=NB669_666.out
             have hnc54:=NB666_669.out
             have hcz55_0:wc.cell? ⟨gb669,0,none⟩=some (.int .i64 ((zn l0_1 x20_1).f0)):=(ze BK669.out 0).trans rfl
             have hcz55_1:wc.cell? ⟨gb669,1,none⟩=some (.string ((zn l0_1 x20_1).f1)):=(ze BK669.out 1).trans rfl
             have hfz55_0:=zd BK669.out 0
             have hfz55_1:=zd BK669.out 1
             have hnb56:=NB666_658.out
             have hnc56:=NB658_666.out
             have hnb57:=NB666_659.out
             have hnc57:=NB659_666.out
             have hcz58_0:wc.cell? ⟨gb666,0,none⟩=some (u667000):=(ze BK666.out 0).trans rfl
             have hcz58_1:wc.cell? ⟨gb666,1,none⟩=some (.slice Ao17 t663.length co17):=(ze BK666.out 1).trans rfl
             have hfz58_0:=zd BK666.out 0
             have hfz58_1:=zd BK666.out 1
             have p51:0≤(((zn l0_1 x20_1).f0):Int):=of_decide_eq_true zq11
             have q51:(((zn l0_1 x20_1).f0):Int)<((x667000_1.length:Int):Int):=of_decide_eq_true zq11
             obtain ⟨go51,co51,eo51,gb51,gl51,cl51,HG51⟩:=Kd.R_form HO_667000.out zq5
             (first|cases eo51|(injection eo51 with ea_ en_ ec_;(first|subst ea_|(injection ea_ with ea_;subst ea_));subst ec_;clear en_))
             have GB51:=zz gb51
             have GG51:=zz HG51
             clear gb51 gl51 HG51
             obtain ⟨hx51_0,hf51_0⟩:=Kd.R_celln (⟨#[]⟩:ByteArray) HO_667000.out (((zn l0_1 x20_1).f0):Int) p51 q51
             replace p51:=eq_true p51
             replace q51:=eq_true q51
             have HP59:=Kd.R_putg HO_667000.out (((zn l0_1 x20_1).f0):Int) ((zn l0_1 x20_1).f1)
             go_wp2_with (first|((with_reducible refine zC (t:=9) (p:=51) rfl ?_);refine zca (t:=9) (p:=51) (v:= ?vo_w60) (w1:=(wc.setCell ⟨go51,(((zn l0_1 x20_1).f0):Int).toNat,none⟩ (.string ((zn l0_1 x20_1).f1)))) ?hg ?ho ?hn ?hr ?_;(case ho=>rfl);(case hg=>rfl);(case hn=>rfl);(case hr=>first|(go_simp;done)|(go_simp;rfl));intro w60 hw;have hg:wc.grownBy w60 (some go51):=(by rw [hw];exact HP59.2);have hp_:Kd.R Kd.string 9 w60 w.heap.size (fun _=>True) (.slice (some ⟨go51,0,none⟩) x667000_1.length co51) y672:=(by rw [hw,Ny672.out];exact HP59.1);clear HP59;have n0_:=zz (hp_);have n1_:=zz (Kd.R_over' (v:=(.slice (some ⟨go51,0,none⟩) x667000_1.length co51)) (zq9 HO_667001.out) (Kd.R_typed HO_667000.out) zq14 hg);have n2_:=zz (zI (g:=gb658) (o:= .cells #[.slice A0_0 l0_0.length c0_0,.slice (some ad668) l0_1.length c0_1] 37 (0,0)) (zq0 BK658.out) hg (Kd.R_ne HO_667000.out BK658.out zq14));have n3_:=zz (zI (g:=gb659) (o:= .cells #[.slice none 0 0,.slice none 0 0] 37 (0,0)) (zq0 BK659.out) hg (Kd.R_ne HO_667000.out BK659.out zq14));have n4_:=zz (zI (g:=gb666) (o:= .cells #[.slice (some ⟨go51,0,none⟩) x667000_1.length co51,.slice Ao17 t663.length co17] 37 (0,0)) (zq0 BK666.out) hg (Kd.R_ne HO_667000.out BK666.out zq14));have n5_:=zz (zI (g:=gb669) (o:= .cells #[.int .i64 ((zn l0_1 x20_1).f0),.string ((zn l0_1 x20_1).f1)] 110 (0,0)) (zq0 BK669.out) hg (Kd.R_ne HO_667000.out BK669.out zq14));have n6_:=zz ((by rw [hw];exact zr (HB.out) GB51.out:Below w.heap.size w w60));clear HO_667000;clear HO_667001;clear BK658;clear BK659;clear BK666;clear BK669;clear HB;have HO_667000:=n0_;have HO_667001:=n1_;have BK658:=n2_;have BK659:=n3_;have BK666:=n4_;have BK669:=n5_;have HB:=n6_;clear n0_ n1_ n2_ n3_ n4_ n5_ n6_;clear hg hw hp_))
             go_roundg kj23
             case measure=>have:=HK1.out;have:=HJ23.out;omega
             case rel=>exact ⟨(wrap64 (x20_1+1)),(y672),(.slice (some ⟨go51,0,none⟩) x667000_1.length co51),zq12,H',⟨by have:=HK1.out;have:=HJ23.out;omega⟩,⟨by (with_reducible repeat (first|apply Kd.R_alloc|apply Kd.R_drewN|apply Kd.R_drew));exact HO_667000.out⟩,⟨by (with_reducible repeat (first|apply Kd.R_alloc|apply Kd.R_drewN|apply Kd.R_drew));exact Kd.R_mono HO_667001.out (fun _ hk=>trivial)⟩,⟨by (with_reducible repeat (first|refine zj ?_ _|refine zl ?_|refine zh ?_ _));exact BK658.out⟩,⟨by (with_reducible repeat (first|refine zj ?_ _|refine zl ?_|refine zh ?_ _));exact BK659.out⟩,⟨by (with_reducible repeat (first|refine zj ?_ _|refine zl ?_|refine zh ?_ _));exact BK666.out⟩,⟨by repeat (first|(with_reducible first|exact HB.out|apply zg|apply zf|apply zm|refine zr ?_ GE658.out|refine zr ?_ GE659.out|refine zr ?_ GE666.out|refine zr ?_ GE669.out)|exact HB.out)⟩⟩
            ·rw [if_neg c50] at H
             exact absurd H zq15
           ·rw [if_neg c49] at H
            exact absurd H zq15
      ·rw [if_neg c23] at H
       exact absurd H zq15
     ·rw [if_neg c22] at H
      exact absurd H zq15
    ·rw [if_neg c21] at H
     have c21b0:decide (x20_1<(l0_1.length:Int))=false:=decide_eq_false c21
     clear c21
     simp only [Option.some.injEq,Prod.mk.injEq] at H
     obtain ⟨rfl,rfl⟩:=H
     have hnb61:=NB666_658.out
     have hnc61:=NB658_666.out
     have hnb62:=NB666_659.out
     have hnc62:=NB659_666.out
     have hcz63_0:wr.cell? ⟨gb666,0,none⟩=some (u667000):=(ze BK666.out 0).trans rfl
     have hcz63_1:wr.cell? ⟨gb666,1,none⟩=some (.slice Ao17 t663.length co17):=(ze BK666.out 1).trans rfl
     have hfz63_0:=zd BK666.out 0
     have hfz63_1:=zd BK666.out 1
     obtain ⟨Ao64,co64,eo64⟩:=Kd.R_slice HO_667000.out
     subst eo64
     have hnb65:=NB659_658.out
     have hnc65:=NB658_659.out
     have hcz66_0:wr.cell? ⟨gb659,0,none⟩=some (.slice none 0 0):=(ze BK659.out 0).trans rfl
     have hcz66_1:wr.cell? ⟨gb659,1,none⟩=some (.slice none 0 0):=(ze BK659.out 1).trans rfl
     have hfz66_0:=zd BK659.out 0
     have hfz66_1:=zd BK659.out 1
     go_wp2
     refine bodyPost_ret (results_cell_row rfl _ _ gb659 37 #[.slice Ao64 x667000_1.length co64,.slice none 0 0] (0,0) _ rfl (by (with_reducible repeat (first|refine zj ?_ _|refine zl ?_|refine zh ?_ _));refine zL (cs:= #[.slice Ao64 x667000_1.length co64,.slice none 0 0]) ?_ 1 _ rfl;(with_reducible repeat (first|refine zj ?_ _|refine zl ?_|refine zh ?_ _));refine zL (cs:= #[.slice none 0 0,.slice none 0 0]) ?_ 0 _ rfl;(with_reducible repeat (first|refine zj ?_ _|refine zl ?_|refine zh ?_ _));refine zH ?_ NB659_666.out _;(with_reducible repeat (first|refine zj ?_ _|refine zl ?_|refine zh ?_ _));exact BK659.out) Tryz.underlying37 rfl zq7) rfl ?_
     exact ⟨_,_,by first|rfl|(simp [zx,zw]<;>rfl)|(simp [*,zx,zw]<;>rfl),by (with_reducible repeat (first|apply Kd.R_alloc|apply Kd.R_drewN|apply Kd.R_drew));exact Kd.R_mono (Kd.R_far (p:=⟨gb659,1,none⟩) (Kd.R_far (p:=⟨gb659,0,none⟩) (Kd.R_far (p:=⟨gb666,1,none⟩) (Kd.R_types (Kd.R_types HO_667000.out BK666.out zq14) BK659.out zq14) (fun _ hk=>hk.1.2) (.slice none 0 0)) (fun _ hk=>hk.2) (.slice Ao64 x667000_1.length co64)) (fun _ hk=>hk.2) (.slice none 0 0)) (fun _ hk=>trivial),by first|exact Kd.R_nil _ _ _ _ _|exact Kd.N_nil _ _ _ _ _|exact Kd.V_nil _ _ _ _ _|exact Kd.Q_nil _ _ _ _ _|exact Kd.S_nil _ _ _ _ _,by repeat (first|(with_reducible first|exact HB.out|apply zg|apply zf|apply zm|refine zr ?_ GE658.out|refine zr ?_ GE659.out|refine zr ?_ GE666.out)|exact HB.out)⟩
 ·replace c6:=Bool.eq_false_iff.mpr c6
  subst c6
  have H1:(some (t660,t663))=some (r1,r2):=by rw [if_neg (show ¬(false=true) by decide)] at H;exact H
  clear H
  have H:=H1
  clear H1
  simp only [Option.some.injEq,Prod.mk.injEq] at H
  obtain ⟨rfl,rfl⟩:=H
  go_enter Tryz.func60,Tryz.ntmps60
  go_wp2_with (first|((with_reducible refine zv (N:=3) rfl ?_);refine zE ?hg (N:=3) ?hd (cs:= #[.slice A0_0 l0_0.length c0_0,.slice A0_1 l0_1.length c0_1]) (t:=37) ?hr ?_;(case hd=>rfl);(case hg=>rfl);(case hr=>first|(go_simp;done)|(go_simp;rfl));intro gb658 hg w67 hbox hb;have n0_:=zz (zk zq1 hb);have n1_:=zz (hbox);have n2_:=zz ((by rw [hg];exact (zi zq1):w.heap.size≤gb658));have n3_:=zz ((by rw [hg];exact (zi zq1):w.heap.size≤gb658));clear HB;have HB:=n0_;have BK658:=n1_;have GW658:=n2_;have GE658:=n3_;clear n0_ n1_ n2_ n3_;clear hb hbox hg)|((with_reducible refine zv (N:=6) rfl ?_);refine zE ?hg (N:=6) ?hd (cs:= #[.slice none 0 0,.slice none 0 0]) (t:=37) ?hr ?_;(case hd=>rfl);(case hg=>rfl);(case hr=>first|(go_simp;done)|(go_simp;rfl));intro gb659 hg w68 hbox hb;have n0_:=zz (zu (g:=gb658) (o:= .cells #[.slice A0_0 l0_0.length c0_0,.slice A0_1 l0_1.length c0_1] 37 (0,0)) (zq0 BK658.out) hb);have n1_:=zz (zk (zq3 GE658.out) hb);have n2_:=zz (hbox);have n3_:=zz ((by rw [hg];exact (zi (zq3 GE658.out)):w.heap.size≤gb659));have n4_:=zz ((by rw [hg];exact (zi (zq3 GE658.out)):w.heap.size≤gb659));have n5_:=zz ((by rw [hg];exact Nat.ne_of_lt (zG (g:=gb658) (o:= .cells #[.slice A0_0 l0_0.length c0_0,.slice A0_1 l0_1.length c0_1] 37 (0,0)) (zq0 BK658.out)):gb658≠gb659));have n6_:=zz ((by rw [hg];exact Nat.ne_of_gt (zG (g:=gb658) (o:= .cells #[.slice A0_0 l0_0.length c0_0,.slice A0_1 l0_1.length c0_1] 37 (0,0)) (zq0 BK658.out)):gb659≠gb658));clear BK658;clear HB;have BK658:=n0_;have HB:=n1_;have BK659:=n2_;have GW659:=n3_;have GE659:=n4_;have NB658_659:=n5_;have NB659_658:=n6_;clear n0_ n1_ n2_ n3_ n4_ n5_ n6_;clear hb hbox hg;have hnb69:=NB658_659.out;have hnc69:=NB659_658.out;have hcz70_0:w68.cell? ⟨gb658,0,none⟩=some (.slice A0_0 l0_0.length c0_0):=(ze BK658.out 0).trans rfl;have hcz70_1:w68.cell? ⟨gb658,1,none⟩=some (.slice A0_1 l0_1.length c0_1):=(ze BK658.out 1).trans rfl;have hfz70_0:=zd BK658.out 0;have hfz70_1:=zd BK658.out 1)|((with_reducible refine zB (f:=46) rfl ?_);refine zO (some 12) rfl rfl Tryz.func46 zq7 rfl #[.agg #[.slice A0_0 l0_0.length c0_0,.slice A0_1 l0_1.length c0_1]] rfl zq4 ?_;(with_reducible refine (impl_cloneDisk.calls _ _ l0_0 _ _ l0_1 t660 t663 _ ?side1 ?side2 ?side3 ?side4 A4.out).mono ?_);(case side1=>repeat (first|exact (Kd.C_below HR0_0.out HB.out)|(with_reducible refine Kd.C_alloc ?_ _)|(with_reducible refine Kd.C_drewN ?_ _)|(with_reducible refine Kd.C_drew ?_)));(case side2=>exact HC0_0.out);(case side3=>repeat (first|exact (Kd.C_below HR0_1.out HB.out)|(with_reducible refine Kd.C_alloc ?_ _)|(with_reducible refine Kd.C_drewN ?_ _)|(with_reducible refine Kd.C_drew ?_)));(case side4=>exact HC0_1.out);rintro e w71 ⟨v661,v664,rfl,ho0,ho1,hb⟩;refine ⟨_,rfl,?_⟩;(first|have rs_v661:=zN (P:=Tryz.prog) ho0|have rs_v661:=zN (P:=Tryz.prog) (Kd.S_R ho0)|skip);(first|have rs_v664:=zN (P:=Tryz.prog) ho1|have rs_v664:=zN (P:=Tryz.prog) (Kd.S_R ho1)|skip);have n0_:=zz (Kd.R_lower ho0 (zi (zq2 GE658.out GE659.out)));have n1_:=zz (Kd.R_lower ho1 (zi (zq2 GE658.out GE659.out)));have n2_:=zz (zu (g:=gb658) (o:= .cells #[.slice A0_0 l0_0.length c0_0,.slice A0_1 l0_1.length c0_1] 37 (0,0)) (zq0 BK658.out) hb);have n3_:=zz (zu (g:=gb659) (o:= .cells #[.slice none 0 0,.slice none 0 0] 37 (0,0)) (zq0 BK659.out) hb);have n4_:=zz (zk (zq2 GE658.out GE659.out) hb);clear BK658;clear BK659;clear HB;have HO662:=n0_;have HO665:=n1_;have BK658:=n2_;have BK659:=n3_;have HB:=n4_;clear n0_ n1_ n2_ n3_ n4_;(try clear hb);(try clear hb2);(try clear hk);(try clear hi);(try clear ho0);(try clear ho1))|((with_reducible refine zv (N:=7) rfl ?_);refine zE ?hg (N:=7) ?hd (cs:= #[.slice none 0 0,.slice none 0 0]) (t:=37) ?hr ?_;(case hd=>rfl);(case hg=>rfl);(case hr=>first|(go_simp;done)|(go_simp;rfl));intro gb666 hg w72 hbox hb;have n0_:=zz (Kd.R_below (zq9 HO662.out) hb);have n1_:=zz (Kd.R_below (zq9 HO665.out) hb);have n2_:=zz (zu (g:=gb658) (o:= .cells #[.slice A0_0 l0_0.length c0_0,.slice A0_1 l0_1.length c0_1] 37 (0,0)) (zq0 BK658.out) hb);have n3_:=zz (zu (g:=gb659) (o:= .cells #[.slice none 0 0,.slice none 0 0] 37 (0,0)) (zq0 BK659.out) hb);have n4_:=zz (zk (zq2 GE658.out GE659.out) hb);have n5_:=zz (hbox);have n6_:=zz ((by rw [hg];exact (zi (zq2 GE658.out GE659.out)):w.heap.size≤gb666));have n7_:=zz ((by rw [hg];exact (zi (zq2 GE658.out GE659.out)):w.heap.size≤gb666));have n8_:=zz ((by rw [hg];exact Nat.ne_of_lt (zG (g:=gb658) (o:= .cells #[.slice A0_0 l0_0.length c0_0,.slice A0_1 l0_1.length c0_1] 37 (0,0)) (zq0 BK658.out)):gb658≠gb666));have n9_:=zz ((by rw [hg];exact Nat.ne_of_gt (zG (g:=gb658) (o:= .cells #[.slice A0_0 l0_0.length c0_0,.slice A0_1 l0_1.length c0_1] 37 (0,0)) (zq0 BK658.out)):gb666≠gb658));have n10_:=zz ((by rw [hg];exact Nat.ne_of_lt (zG (g:=gb659) (o:= .cells #[.slice none 0 0,.slice none 0 0] 37 (0,0)) (zq0 BK659.out)):gb659≠gb666));have n11_:=zz ((by rw [hg];exact Nat.ne_of_gt (zG (g:=gb659) (o:= .cells #[.slice none 0 0,.slice none 0 0] 37 (0,0)) (zq0 BK659.out)):gb666≠gb659));clear HO662;clear HO665;clear BK658;clear BK659;clear HB;have HO662:=n0_;have HO665:=n1_;have BK658:=n2_;have BK659:=n3_;have HB:=n4_;have BK666:=n5_;have GW666:=n6_;have GE666:=n7_;have NB658_666:=n8_;have NB666_658:=n9_;have NB659_666:=n10_;have NB666_659:=n11_;clear n0_ n1_ n2_ n3_ n4_ n5_ n6_ n7_ n8_ n9_ n10_ n11_;clear hb hbox hg;obtain ⟨Ao73,co73,eo73⟩:=Kd.R_slice HO662.out;subst eo73;have hnb74:=NB666_658.out;have hnc74:=NB658_666.out;have hnb75:=NB666_659.out;have hnc75:=NB659_666.out;have hcz76_0:w72.cell? ⟨gb666,0,none⟩=some (.slice none 0 0):=(ze BK666.out 0).trans rfl;have hcz76_1:w72.cell? ⟨gb666,1,none⟩=some (.slice none 0 0):=(ze BK666.out 1).trans rfl;have hfz76_0:=zd BK666.out 0;have hfz76_1:=zd BK666.out 1;obtain ⟨Ao77,co77,eo77⟩:=Kd.R_slice HO665.out;subst eo77;have hcz78_0:w72.cell? ⟨gb658,0,none⟩=some (.slice A0_0 l0_0.length c0_0):=(ze BK658.out 0).trans rfl;have hcz78_1:w72.cell? ⟨gb658,1,none⟩=some (.slice A0_1 l0_1.length c0_1):=(ze BK658.out 1).trans rfl;have hfz78_0:=zd BK658.out 0;have hfz78_1:=zd BK658.out 1)|((with_reducible refine zB (f:=103) rfl ?_);refine zO (some 14) rfl rfl Tryz.func103 zq7 rfl #[.agg #[.slice A0_0 l0_0.length c0_0,.slice A0_1 l0_1.length c0_1]] rfl zq4 ?_;(with_reducible refine (impl_DiskOk.calls _ _ l0_0 _ _ l0_1 false _ ?side1 ?side2 ?side3 ?side4 A5.out).mono ?_);(case side1=>exact Kd.C_below HR0_0.out (zq6 GE658.out GE659.out GE666.out));(case side2=>exact HC0_0.out);(case side3=>exact Kd.C_below HR0_1.out (zq6 GE658.out GE659.out GE666.out));(case side4=>exact HC0_1.out);rintro e w79 ⟨rfl,hb⟩;refine ⟨_,rfl,?_⟩;have n0_:=zz (Kd.R_below (zq35 HO662.out BK666.out) hb);have n1_:=zz (Kd.R_below (zq35 HO665.out BK666.out) hb);have n2_:=zz (zu (g:=gb658) (o:= .cells #[.slice A0_0 l0_0.length c0_0,.slice A0_1 l0_1.length c0_1] 37 (0,0)) (zq25 BK658.out) hb);have n3_:=zz (zu (g:=gb659) (o:= .cells #[.slice none 0 0,.slice none 0 0] 37 (0,0)) (zq26 BK659.out) hb);have n4_:=zz (zu (g:=gb666) (o:= .cells #[.slice Ao73 t660.length co73,.slice Ao77 t663.length co77] 37 (0,0)) (zq21 BK666.out) hb);have n5_:=zz (zk (zq6 GE658.out GE659.out GE666.out) hb);clear HO662;clear HO665;clear BK658;clear BK659;clear BK666;clear HB;have HO662:=n0_;have HO665:=n1_;have BK658:=n2_;have BK659:=n3_;have BK666:=n4_;have HB:=n5_;clear n0_ n1_ n2_ n3_ n4_ n5_;(try clear hb);(try clear hb2);(try clear hk);(try clear hi);have hcz80_0:w79.cell? ⟨gb666,0,none⟩=some (.slice Ao73 t660.length co73):=(ze BK666.out 0).trans rfl;have hcz80_1:w79.cell? ⟨gb666,1,none⟩=some (.slice Ao77 t663.length co77):=(ze BK666.out 1).trans rfl;have hfz80_0:=zd BK666.out 0;have hfz80_1:=zd BK666.out 1;have hcz81_0:w79.cell? ⟨gb659,0,none⟩=some (.slice none 0 0):=(ze BK659.out 0).trans rfl;have hcz81_1:w79.cell? ⟨gb659,1,none⟩=some (.slice none 0 0):=(ze BK659.out 1).trans rfl;have hfz81_0:=zd BK659.out 0;have hfz81_1:=zd BK659.out 1))
  refine bodyPost_ret (results_cell_row rfl _ _ gb659 37 #[.slice Ao73 t660.length co73,.slice Ao77 t663.length co77] (0,0) _ rfl (zq21 BK659.out) Tryz.underlying37 rfl zq7) rfl ?_
  exact ⟨_,_,by first|rfl|(simp [zx,zw]<;>rfl)|(simp [*,zx,zw]<;>rfl),by (with_reducible repeat (first|apply Kd.R_alloc|apply Kd.R_drewN|apply Kd.R_drew));exact Kd.R_mono (Kd.R_far (p:=⟨gb659,1,none⟩) (Kd.R_far (p:=⟨gb659,0,none⟩) (Kd.R_types HO662.out BK659.out zq14) (fun _ hk=>hk.2) (.slice Ao73 t660.length co73)) (fun _ hk=>hk.2) (.slice Ao77 t663.length co77)) (fun _ hk=>trivial),by (with_reducible repeat (first|apply Kd.R_alloc|apply Kd.R_drewN|apply Kd.R_drew));exact Kd.R_mono (Kd.R_far (p:=⟨gb659,1,none⟩) (Kd.R_far (p:=⟨gb659,0,none⟩) (Kd.R_types HO665.out BK659.out zq14) (fun _ hk=>hk.2) (.slice Ao73 t660.length co73)) (fun _ hk=>hk.2) (.slice Ao77 t663.length co77)) (fun _ hk=>trivial),by repeat (first|(with_reducible first|exact HB.out|apply zg|apply zf|apply zm|refine zr ?_ GE658.out|refine zr ?_ GE659.out|refine zr ?_ GE666.out)|exact HB.out)⟩
def laws_eqBoolS.l0:Nat→List Bool→List Bool→Int→Option (Bool)
 |0,_,_,_=>none
 |k+1,x0,x1,x5=>if x5<(x0.length:Int) then (if 0≤x5 then (if x5<(x1.length:Int) then (if ((zLa false x0 x5) !=(zLa false x1 x5))=true then (none) else (laws_eqBoolS.l0 k x0 x1 (wrap64 (x5+1)))) else (none)) else (none)) else (some true)
def laws_eqBoolS.f (k:Nat) (l0:List Bool) (l1:List Bool):Option (Bool):=if (l0.length:Int)=(l1.length:Int) then (laws_eqBoolS.l0 k l0 l1 0) else (none)
theorem laws_eqBoolS.calls (k:Nat) (A0:Option Addr) (c0:Nat) (l0:List Bool) (A1:Option Addr) (c1:Nat) (l1:List Bool) (r:Bool) (w:World) (hr0:Kd.C Kd.bool w A0 l0.length l0) (hc0:l0.length≤c0) (hr1:Kd.C Kd.bool w A1 l1.length l1) (hc1:l1.length≤c1) (h:laws_eqBoolS.f k l0 l1=some r):
  Calls Tryz.prog 21 #[.slice A0 l0.length c0,.slice A1 l1.length c1] w fun e w'=>e= .returned (.bool r)∧Drawn0 w w':=by
 have HR0:=zz hr0
 have HC0:=zz hc0
 clear hr0 hc0
 have HR1:=zz hr1
 have HC1:=zz hc1
 clear hr1 hc1
 have H:(if (l0.length:Int)=(l1.length:Int) then (laws_eqBoolS.l0 k l0 l1 0) else (none))=some r:=h
 clear h
 by_cases c3:(l0.length:Int)=(l1.length:Int)
 ·rw [if_pos c3] at H
  have c3b0:((l0.length:Int)==(l1.length:Int))=true:=beq_iff_eq.mpr c3
  have c3b1:((l0.length:Int) !=(l1.length:Int))=false:=bne_eq_false_iff_eq.mpr c3
  have c3b2:(l0.length==l1.length)=true:=by first|simpa using c3|(simp at c3 ⊢;omega)
  clear c3
  have H':=zz H
  clear H
  go_enter Tryz.func21,Tryz.ntmps21
  go_wp2
  repeat (go_quiet (fail);try go_wp2)
  go_loopg [5] k (fun kq v5 w'=>∃(x5_1:Int),v5= .int .i64 x5_1∧Z0 (laws_eqBoolS.l0 kq l0 l1 x5_1=some r)∧Z0 (kq≤k)∧Drawn0 w w')
  case atStart=>exact ⟨(0),zq12,H',⟨Nat.le_refl _⟩,by repeat (first|exact Drawn0.refl _|apply Drawn0.step)⟩
  case round=>
   clear H'
   try clear c1
   try clear c3
   try clear c3b0
   try clear c3b1
   try clear c3b2
   obtain ⟨x5_1,rfl,HA,HK1,⟨m1,rfl⟩⟩:=hrel
   cases gk with
   |zero=>exact absurd HA.out (by simp [laws_eqBoolS.l0])
   |succ k1=>
    have H:=HA.out
    clear HA
    simp only [laws_eqBoolS.l0] at H
    by_cases c4:x5_1<(l0.length:Int)
    ·rw [if_pos c4] at H
     have c4b0:decide (x5_1<(l0.length:Int))=true:=decide_eq_true c4
     clear c4
     by_cases c5:0≤x5_1
     ·rw [if_pos c5] at H
      have c5b0:decide (0≤x5_1)=true:=decide_eq_true c5
      clear c5
      by_cases c6:x5_1<(l1.length:Int)
      ·rw [if_pos c6] at H
       have c6b0:decide (x5_1<(l1.length:Int))=true:=decide_eq_true c6
       clear c6
       by_cases c7:((zLa false l0 x5_1) !=(zLa false l1 x5_1))=true
       ·rw [if_pos c7] at H
        exact absurd H zq15
       ·rw [if_neg c7] at H
        have c7b0:((zLa false l0 x5_1) !=(zLa false l1 x5_1))=false:=by simpa using c7
        (try (have c7b1:decide ((zLa false l0 x5_1)=(zLa false l1 x5_1))=true:=by simpa using c7))
        (try (have c7b2:((zLa false l0 x5_1)==(zLa false l1 x5_1))=true:=by simpa using c7))
        clear c7
        have H':=zz H
        clear H
        have p675:0≤(x5_1:Int):=of_decide_eq_true zq11
        have q675:x5_1<(l0.length:Int):=of_decide_eq_true zq11
        obtain ⟨ad675,e675,hx675_0⟩:=Kd.at_bool HR0.out x5_1 p675 q675
        cases e675
        replace p675:=eq_true p675
        replace q675:=eq_true q675
        have p676:0≤(x5_1:Int):=of_decide_eq_true zq11
        have q676:x5_1<(l1.length:Int):=of_decide_eq_true zq11
        obtain ⟨ad676,e676,hx676_0⟩:=Kd.at_bool HR1.out x5_1 p676 q676
        cases e676
        replace p676:=eq_true p676
        replace q676:=eq_true q676
        go_wp2
        repeat (go_quiet (fail);try go_wp2)
        go_roundg k1
        case measure=>have:=HK1.out;omega
        case rel=>exact ⟨(wrap64 (x5_1+1)),zq12,H',⟨by have:=HK1.out;omega⟩,by repeat (first|exact Drawn0.refl _|apply Drawn0.step)⟩
      ·rw [if_neg c6] at H
       exact absurd H zq15
     ·rw [if_neg c5] at H
      exact absurd H zq15
    ·rw [if_neg c4] at H
     have c4b0:decide (x5_1<(l0.length:Int))=false:=decide_eq_false c4
     clear c4
     obtain rfl:=Option.some.inj H
     go_wp2
     repeat (go_quiet (fail);try go_wp2)
     go_ret
     exact ⟨by first|rfl|(simp;done)|(simp [*];done),by repeat (first|exact Drawn0.refl _|apply Drawn0.step)⟩
 ·rw [if_neg c3] at H
  exact absurd H zq15
def laws_markBoolS.l0:Nat→List Bool→Int→Int→Option (Int×List Bool)
 |0,_,_,_=>none
 |k+1,x0,x1,x5=>if x5<(x0.length:Int) then (if 0≤x5 then (laws_markBoolS.l0 k (x0.set (x5:Int).toNat ((Int.tmod x1 3)==0)) (wrap64 (x1+1)) (wrap64 (x5+1))) else (none)) else (some (x1,x0))
def laws_markBoolS.f (k:Nat) (l0:List Bool) (a1:Int):Option (Int×List Bool):=laws_markBoolS.l0 k l0 a1 0
theorem laws_markBoolS.calls (k:Nat) (P0_:Nat→Prop) (u9000_:Value) (l0:List Bool) (a1:Int) (r1:Int) (r2:List Bool) (w0 w:World) (hB:Below w0.heap.size w0 w) (ho0:Kd.R Kd.bool 4 w w0.heap.size P0_ u9000_ l0) (h:laws_markBoolS.f k l0 a1=some (r1,r2)):
  Calls Tryz.prog 22 #[u9000_,.int .i64 a1] w fun e w'=>e= .returned (.int .i64 r1)∧Kd.R Kd.bool 4 w' w0.heap.size (fun k_=>(P0_ k_∨w.heap.size≤k_)) u9000_ r2∧Below w0.heap.size w0 w'∧Kept w w' (fun k_=>P0_ k_):=by
 have HO0:=zz (show Kd.R Kd.bool 4 w w0.heap.size (fun k_=>(P0_ k_∨w.heap.size≤k_)) u9000_ l0 from Kd.R_mono ho0 (fun k_ hk=>(.inl hk)))
 have HK:=zz (Kept.refl w (fun k_=>P0_ k_))
 have HW0:=zz hB.size
 have HB:=zz hB
 clear hB
 have H:(laws_markBoolS.l0 k l0 a1 0)=some (r1,r2):=h
 clear h
 have H':=zz H
 clear H
 go_enter Tryz.func22,Tryz.ntmps22
 go_wp2
 go_loopg [1,5] k (fun kq v1 v5 w'=>∃(x0_1:List Bool) (x1_1:Int) (x5_1:Int),v1= .int .i64 x1_1∧v5= .int .i64 x5_1∧Z0 (laws_markBoolS.l0 kq x0_1 x1_1 x5_1=some (r1,r2))∧Z0 (kq≤k)∧Z0 (Kd.R Kd.bool 4 w' w0.heap.size (fun k_=>(P0_ k_∨w.heap.size≤k_)) u9000_ x0_1)∧Z0 (Kept w w' (fun k_=>P0_ k_))∧Z0 (Below w0.heap.size w0 w'))
 case atStart=>exact ⟨(l0),(a1),(0),zq12,zq12,H',⟨Nat.le_refl _⟩,⟨by (with_reducible repeat (first|apply Kd.R_alloc|apply Kd.R_drewN|apply Kd.R_drew));exact HO0.out⟩,⟨by repeat (first|(with_reducible first|exact HK.out|apply Kept.alloc|apply Kept.drewN|apply Kept.drew)|exact HK.out)⟩,⟨by repeat (first|(with_reducible first|exact HB.out|apply zg|apply zf|apply zm)|exact HB.out)⟩⟩
 case round=>
  clear H'
  obtain ⟨x0_1,x1_1,x5_1,rfl,rfl,HA,HK1,HO_0,HK,HB⟩:=hrel
  cases gk with
  |zero=>exact absurd HA.out (by simp [laws_markBoolS.l0])
  |succ k1=>
   have H:=HA.out
   clear HA
   simp only [laws_markBoolS.l0] at H
   by_cases c3:x5_1<(x0_1.length:Int)
   ·rw [if_pos c3] at H
    have c3b0:decide (x5_1<(x0_1.length:Int))=true:=decide_eq_true c3
    clear c3
    by_cases c4:0≤x5_1
    ·rw [if_pos c4] at H
     have c4b0:decide (0≤x5_1)=true:=decide_eq_true c4
     clear c4
     obtain ⟨y677,hy677⟩:∃y_:List Bool,y_=(x0_1.set (x5_1:Int).toNat ((Int.tmod x1_1 3)==0)):=⟨_,rfl⟩
     replace H:(laws_markBoolS.l0 k1 y677 (wrap64 (x1_1+1)) (wrap64 (x5_1+1)))=some (r1,r2):=by first|(rw [hy677];with_reducible exact H)|(have H2_:=(Option.bind_some _ _).symm.trans H;rw [hy677];with_reducible exact H2_)|(have H2_:=(Option.bind_some _ _).symm.trans H;with_reducible exact H2_)|with_reducible exact H|(rw [hy677];exact H)|exact H
     have Ny677:=zz hy677
     clear hy677
     have H':=zz H
     clear H
     obtain ⟨Ao6,co6,eo6⟩:=Kd.R_slice HO_0.out
     subst eo6
     have p5:0≤(x5_1:Int):=of_decide_eq_true zq11
     have q5:(x5_1:Int)<((x0_1.length:Int):Int):=of_decide_eq_true zq11
     obtain ⟨go5,co5,eo5,gb5,gl5,cl5,HG5⟩:=Kd.R_form HO_0.out zq5
     (first|cases eo5|(injection eo5 with ea_ en_ ec_;(first|subst ea_|(injection ea_ with ea_;subst ea_));subst ec_;clear en_))
     have GB5:=zz gb5
     have GG5:=zz HG5
     clear gb5 gl5 HG5
     have HMgo5:=zz (show (P0_ go5∨w.heap.size≤go5) from (HO_0.out.1 _ rfl))
     obtain ⟨hx5_0,hf5_0⟩:=Kd.R_celln false HO_0.out (x5_1:Int) p5 q5
     replace p5:=eq_true p5
     replace q5:=eq_true q5
     have HP7:=Kd.R_putg HO_0.out (x5_1:Int) ((Int.tmod x1_1 3)==0)
     go_wp2_with (first|((with_reducible refine zC (t:=4) (p:=17) rfl ?_);refine zca (t:=4) (p:=17) (v:= ?vo_w8) (w1:=(wr.setCell ⟨go5,(x5_1:Int).toNat,none⟩ (.bool ((Int.tmod x1_1 3)==0)))) ?hg ?ho ?hn ?hr ?_;(case ho=>rfl);(case hg=>rfl);(case hn=>rfl);(case hr=>first|(go_simp;done)|(go_simp;rfl));intro w8 hw;have hg:wr.grownBy w8 (some go5):=(by rw [hw];exact HP7.2);have hp_:Kd.R Kd.bool 4 w8 w0.heap.size (fun k_=>(P0_ k_∨w.heap.size≤k_)) (.slice (some ⟨go5,0,none⟩) x0_1.length co6) y677:=(by rw [hw,Ny677.out];exact HP7.1);clear HP7;have n0_:=zz (hp_);have n1_:=zz ((by rw [hw];exact zr (HB.out) GB5.out:Below w0.heap.size w0 w8));have n2_:=zz (Kept.of_grown (S:=(fun k_=>P0_ k_)) hg zq18 (fun k_ e_=>(HO_0.out.1 k_ e_)));clear HO_0;clear HB;clear HK;have HO_0:=n0_;have HB:=n1_;have HK:=n2_;clear n0_ n1_ n2_;clear hg hw hp_))
     go_roundg k1
     case measure=>have:=HK1.out;omega
     case rel=>exact ⟨(y677),(wrap64 (x1_1+1)),(wrap64 (x5_1+1)),zq12,zq12,H',⟨by have:=HK1.out;omega⟩,⟨by (with_reducible repeat (first|apply Kd.R_alloc|apply Kd.R_drewN|apply Kd.R_drew));exact HO_0.out⟩,⟨by repeat (first|(with_reducible first|exact HK.out|apply Kept.alloc|apply Kept.drewN|apply Kept.drew)|exact HK.out)⟩,⟨by repeat (first|(with_reducible first|exact HB.out|apply zg|apply zf|apply zm)|exact HB.out)⟩⟩
    ·rw [if_neg c4] at H
     exact absurd H zq15
   ·rw [if_neg c3] at H
    have c3b0:decide (x5_1<(x0_1.length:Int))=false:=decide_eq_false c3
    clear c3
    simp only [Option.some.injEq,Prod.mk.injEq] at H
    obtain ⟨rfl,rfl⟩:=H
    obtain ⟨Ao9,co9,eo9⟩:=Kd.R_slice HO_0.out
    subst eo9
    go_wp2
    go_ret
    exact ⟨by first|rfl|(simp [zx,zw]<;>rfl)|(simp [*,zx,zw]<;>rfl),by (with_reducible repeat (first|apply Kd.R_alloc|apply Kd.R_drewN|apply Kd.R_drew));exact HO_0.out,by repeat (first|(with_reducible first|exact HB.out|apply zg|apply zf|apply zm)|exact HB.out),by repeat (first|(with_reducible first|exact HK.out|apply Kept.alloc|apply Kept.drewN|apply Kept.drew)|exact HK.out)⟩
end Go.Proofs.YtonhdiemjgdcnaaGreat.PFnExactGivePage
namespace Go.Proofs.YtonhdiemjgdcnaaGreat.PFnExactGivePage
open Go.RowKit Go.Proofs.YtonhdiemjgdcnaaGreatW.PrintWords Go.Proofs.YtonhdiemjgdcnaaGreatW.PrintLast Go.Proofs.YtonhdiemjgdcnaaGreatW.PrintMore
attribute [local go_sem] zba zga zoa zna zW zV zfa zea
def zab (d:(S40×(List ByteArray×List S110×Int×List Int×List Int×List Int)×Int)):Bool:=decide (d.2.2=d.1.f1)&&decide (d.2.1.2.2.2.2.1.length=0)
theorem idleI_c (y:S40) (l0:List ByteArray) (l1:List S110) (l2:Int) (l3 l4 l5:List Int) (n:Int) {cs:List Value} (w:World) (h:kTxn.K w (y,(l0,l1,l2,l3,l4,l5),n) cs):Calls Tryz.prog 42 #[.agg cs.toArray] w fun e w'=>e= .returned (.bool (zab (y,(l0,l1,l2,l3,l4,l5),n)))∧Below w.heap.size w w':=by
 obtain ⟨cM,_,rfl,hM,cW,cI,rfl,hW,hI⟩:=h
 obtain rfl:cI=[.int .i64 n]:=hI
 obtain ⟨AF,cF,rfl,mF,rF⟩:=zMa hM
 obtain ⟨A0,c0,A1,c1,A3,c3,A4,c4,A5,c5,rfl,m0,r0,m1,r1,m3,r3,m4,r4,m5,r5⟩:=kWork_open hW
 simp only [List.cons_append,List.nil_append]
 have e_:zab (y,(l0,l1,l2,l3,l4,l5),n)=(decide (n=y.f1)&&decide (l4.length=0)):=rfl
 rw [e_]
 clear hM hW r0 r1 r3 r4 r5 rF e_
 by_cases h1:n=y.f1
 ·by_cases h2:l4.length=0
  ·have q2:((l4.length:Int)==0)=true:=beq_iff_eq.2 zq5
   have q1:(n==y.f1)=true:=beq_iff_eq.2 h1
   rw [decide_eq_true h1,decide_eq_true h2]
   have H1:=zz h1;have H2:=zz h2
   clear h1 h2
   go_enter Tryz.func42,Tryz.ntmps42
   go_wp2
   go_ret
   exact ⟨rfl,zg (Below.refl w.heap.size w) _⟩
  ·have q2:((l4.length:Int)==0)=false:=beq_eq_false_iff_ne.2 zq5
   have q1:(n==y.f1)=true:=beq_iff_eq.2 h1
   rw [decide_eq_true h1,decide_eq_false h2]
   have H1:=zz h1;have H2:=zz h2
   clear h1 h2
   go_enter Tryz.func42,Tryz.ntmps42
   go_wp2
   go_ret
   exact ⟨rfl,zg (Below.refl w.heap.size w) _⟩
 ·have q1:(n==y.f1)=false:=beq_eq_false_iff_ne.2 h1
  rw [decide_eq_false h1]
  have H1:=zz h1
  clear h1
  go_enter Tryz.func42,Tryz.ntmps42
  go_wp2
  go_ret
  exact ⟨rfl,zg (Below.refl w.heap.size w) _⟩
theorem idleS_c (y:S40) (l0:List ByteArray) (l1:List S110) (l2:Int) (l3 l4 l5:List Int) (n:Int) {cs:List Value} (w:World) (h:kTxn.K w (y,(l0,l1,l2,l3,l4,l5),n) cs):Calls Tryz.prog 32 #[.agg cs.toArray] w fun e w'=>e= .returned (.bool (zab (y,(l0,l1,l2,l3,l4,l5),n)))∧Below w.heap.size w w':=by
 obtain ⟨cM,_,rfl,hM,cW,cI,rfl,hW,hI⟩:=h
 obtain rfl:cI=[.int .i64 n]:=hI
 obtain ⟨AF,cF,rfl,mF,rF⟩:=zMa hM
 obtain ⟨A0,c0,A1,c1,A3,c3,A4,c4,A5,c5,rfl,m0,r0,m1,r1,m3,r3,m4,r4,m5,r5⟩:=kWork_open hW
 simp only [List.cons_append,List.nil_append]
 have e_:zab (y,(l0,l1,l2,l3,l4,l5),n)=(decide (n=y.f1)&&decide (l4.length=0)):=rfl
 rw [e_]
 clear hM hW r0 r1 r3 r4 r5 rF e_
 by_cases h1:n=y.f1
 ·by_cases h2:l4.length=0
  ·have q2:((l4.length:Int)==0)=true:=beq_iff_eq.2 zq5
   have q1:(n==y.f1)=true:=beq_iff_eq.2 h1
   rw [decide_eq_true h1,decide_eq_true h2]
   have H1:=zz h1;have H2:=zz h2
   clear h1 h2
   go_enter Tryz.func32,Tryz.ntmps32
   go_wp2
   go_ret
   exact ⟨rfl,zg (Below.refl w.heap.size w) _⟩
  ·have q2:((l4.length:Int)==0)=false:=beq_eq_false_iff_ne.2 zq5
   have q1:(n==y.f1)=true:=beq_iff_eq.2 h1
   rw [decide_eq_true h1,decide_eq_false h2]
   have H1:=zz h1;have H2:=zz h2
   clear h1 h2
   go_enter Tryz.func32,Tryz.ntmps32
   go_wp2
   go_ret
   exact ⟨rfl,zg (Below.refl w.heap.size w) _⟩
 ·have q1:(n==y.f1)=false:=beq_eq_false_iff_ne.2 h1
  rw [decide_eq_false h1]
  have H1:=zz h1
  clear h1
  go_enter Tryz.func32,Tryz.ntmps32
  go_wp2
  go_ret
  exact ⟨rfl,zg (Below.refl w.heap.size w) _⟩
theorem pageI_c (tx:Int) (w:World) (h:0≤tx∧tx≤100000):Calls Tryz.prog 96 #[.int .i64 tx] w fun e w'=>e= .returned (.int .i64 (tx%2))∧Below w.heap.size w w':=by
 obtain ⟨m,rfl⟩:=Int.eq_ofNat_of_zero_le h.1
 have e_:Go.bits .and .i64 (m:Int) 1=((m:Int)%2):=by
  have hk:∀n:Int,0≤n→n<2^62→IntKind.i64.wrap n=n:=by
   intro n h0 h1
   rw [zA,w64 h0 zq5]
  have:=(bits_nat .i64 62 zq14 hk m 1 zq5 zq14).1
  rw [Nat.and_one_is_mod] at this
  rw [show (1:Int)=((1:Nat):Int) from rfl,this]
  omega
 rw [←e_]
 clear e_ h
 go_enter Tryz.func96,Tryz.ntmps96
 go_wp2
 go_ret
 exact ⟨rfl,Below.refl _ _⟩
theorem pageS_c (tx:Int) (w:World) (h:0≤tx∧tx≤100000):Calls Tryz.prog 39 #[.int .i64 tx] w fun e w'=>e= .returned (.int .i64 (tx%2))∧Below w.heap.size w w':=by
 have e_:Int.tmod tx 2=tx%2:=Int.tmod_eq_emod_of_nonneg h.1
 by_cases h2:tx%2=0
 ·have q:(Int.tmod tx 2==0)=true:=beq_iff_eq.2 (e_.trans h2)
  rw [h2]
  clear e_ h2 h
  go_enter Tryz.func39,Tryz.ntmps39
  go_wp2
  go_ret
  exact ⟨rfl,Below.refl _ _⟩
 ·have q:(Int.tmod tx 2==0)=false:=beq_eq_false_iff_ne.2 (by rw [e_];exact h2)
  rw [show tx%2=1 by omega]
  clear e_ h2 h
  go_enter Tryz.func39,Tryz.ntmps39
  go_wp2
  go_ret
  exact ⟨rfl,Below.refl _ _⟩
end Go.Proofs.YtonhdiemjgdcnaaGreat.PFnExactGivePage
