import Derived.Test.YtonhdiemjgdcnaaGreatCW9
set_option maxHeartbeats 64000000
set_option maxRecDepth 100000
set_option linter.unusedVariables false
set_option linter.unusedSimpArgs false
namespace Go.Proofs
theorem zq23{P Q0 Q1:Prop}(q0:Q0)(q1:Q1)(h:Q0→Q1→P:=by intro q0 q1;(with_reducible repeat (first|refine zk ?_ _|refine zl ?_|refine zh ?_ _));refine zka ?_ q0 _;(with_reducible repeat (first|refine zk ?_ _|refine zl ?_|refine zh ?_ _));refine zka ?_ q0 _;(with_reducible repeat (first|refine zk ?_ _|refine zl ?_|refine zh ?_ _));exact q1):P:=h q0 q1
theorem zq42{P Q0:Prop}(q0:Q0)(h:Q0→P:=by intro q0;rw [q0];exact hull (d:=kStore) (comb (E.1.made 8 rfl) (comb (E.1.made 7 rfl) (comb ((Own.srow 135 k135).M_lower HBs.1 (E.1.made 1 rfl)) (comb zero_56 (comb Mbool Mbool (fun k h1 h2=>by have o:=O.1;(try simp only [Iv,true_and,or_false,false_or] at h1 h2)<;>omega)) (fun k h1 h2=>by have o:=O.1;(try simp only [Iv,true_and,or_false,false_or] at h1 h2)<;>omega)) (fun k h1 h2=>by have o:=O.1;(try simp only [Iv,true_and,or_false,false_or] at h1 h2)<;>omega)) (fun k h1 h2=>by have o:=O.1;(try simp only [Iv,true_and,or_false,false_or] at h1 h2)<;>omega)) (fun k h1 h2=>by have o:=O.1;(try simp only [Iv,true_and,or_false,false_or] at h1 h2)<;>omega)) (fun k h=>by have o:=O.1;(try simp only [Iv,true_and,or_false,false_or] at h)<;>omega)):P:=h q0
theorem zq55{P Q0:Prop}(q0:Q0)(h:Q0→P:=by intro q0;(with_reducible repeat (first|refine zk ?_ _|refine zl ?_|refine zh ?_ _));refine zW (cs:= #[.int .i64 ((zv l3 x0).f0),.string (⟨#[]⟩:ByteArray)]) ?_ 1 _ rfl;(with_reducible repeat (first|refine zk ?_ _|refine zl ?_|refine zh ?_ _));refine zW (cs:= #[.int .i64 0,.string (⟨#[]⟩:ByteArray)]) ?_ 0 _ rfl;(with_reducible repeat (first|refine zk ?_ _|refine zl ?_|refine zh ?_ _));exact q0):P:=h q0
theorem zq59{P:Prop}(h:P:=by rw [Lcs.1];kernel_rfl):P:=h
theorem zq63{P Q0:Prop}(q0:Q0)(h:Q0→P:=by intro q0;(with_reducible repeat (first|apply Kd.R_alloc|apply Kd.R_drewN|apply Kd.R_drew));exact (Kd.R_mono (Kd.R_far (p:=⟨g3,1,none⟩) (Kd.R_far (p:=⟨g3,0,none⟩) (Kd.R_mono q0 (fun k_ hk=>(⟨hk,hk.2⟩:_∧k_≠g3))) (fun _ hk=>hk.2) (.int .i64 ((zv l3 x0).f0))) (fun _ hk=>hk.2) (.string ((zv l3 x0).f1))) (fun _ h_=>h_.1))):P:=h q0
theorem zq64{P:Prop}(h:P:=by simp only [List.length_append,List.length_cons,List.length_nil,LE.1,LZ.1]):P:=h
theorem zq66{P Q0 Q1:Prop}(q0:Q0)(q1:Q1)(h:Q0→Q1→P:=by intro q0 q1;(with_reducible repeat (first|apply Kd.R_alloc|apply Kd.R_drewN|apply Kd.R_drew));exact (Kd.R_mono (Kd.R_far (p:=⟨g3,1,none⟩) (Kd.R_far (p:=⟨g3,0,none⟩) (Kd.R_types q0 q1 (by decide)) (fun _ hk=>hk.2) (.int .i64 ((zv l3 x0).f0))) (fun _ hk=>hk.2) (.string ((zv l3 x0).f1))) (fun _ h_=>h_.1))):P:=h q0 q1
theorem zq67{P:Prop}(h:P:=by have o:=O.1;have e:=E.1.le;and_intros<;>omega):P:=h
theorem zq69{P Q0 Q1:Prop}(q0:Q0)(q1:Q1)(h:Q0→Q1→P:=by intro q0 q1;(with_reducible repeat (first|apply Kd.R_alloc|apply Kd.R_drewN|apply Kd.R_drew));exact Kd.R_mono (Kd.R_far (p:=⟨g2,1,none⟩) (Kd.R_far (p:=⟨g2,0,none⟩) (Kd.R_types q0 q1 (by decide)) (fun _ hk=>hk.2) (.slice Ao9 t0.length co9)) (fun _ hk=>hk.2) (.slice A5 t1.length c11)) (fun _ hk=>trivial)):P:=h q0 q1
theorem zq81{P Q0:Prop}(q0:Q0)(h:Q0→P:=by intro q0;rw [hg];exact z8a (zP (g:=g0) (o:= .cells #[.slice A0 l2.length c0,.slice (some b1) l3.length c1] 37 (0,0)) (by (with_reducible repeat (first|refine zk ?_ _|refine zl ?_|refine zh ?_ _));exact q0))):P:=h q0
theorem zq82{P Q0:Prop}(q0:Q0)(h:Q0→P:=by intro q0;rw [hg];exact z7a (zP (g:=g0) (o:= .cells #[.slice A0 l2.length c0,.slice (some b1) l3.length c1] 37 (0,0)) (by (with_reducible repeat (first|refine zk ?_ _|refine zl ?_|refine zh ?_ _));exact q0))):P:=h q0
theorem zq91{P Q0 Q1 Q2:Prop}(q0:Q0)(q1:Q1)(q2:Q2)(h:Q0→Q1→Q2→P:=by intro q0 q1 q2;rw [hg];exact (zD (by repeat (first|(with_reducible first|exact HB.1|apply zo|apply zO|apply zR|refine zZ ?_ q0|refine zZ ?_ q1|refine zZ ?_ q2)|exact HB.1)))):P:=h q0 q1 q2
theorem zq95{P Q0:Prop}(q0:Q0)(h:Q0→P:=by intro q0;rw [hg];exact z8a (zP (g:=g2) (o:= .cells #[u0,.slice A5 t1.length c11] 37 (0,0)) (by (with_reducible repeat (first|refine zk ?_ _|refine zl ?_|refine zh ?_ _));exact q0))):P:=h q0
theorem zq96{P Q0:Prop}(q0:Q0)(h:Q0→P:=by intro q0;rw [hg];exact z7a (zP (g:=g2) (o:= .cells #[u0,.slice A5 t1.length c11] 37 (0,0)) (by (with_reducible repeat (first|refine zk ?_ _|refine zl ?_|refine zh ?_ _));exact q0))):P:=h q0
theorem zq109{P Q0:Prop}(q0:Q0)(h:Q0→P:=by intro q0;rw [List.size_toArray,show (d0:List Value).length=20 from q0];kernel_rfl):P:=h q0
end Go.Proofs
namespace Go.Proofs.YtonhdiemjgdcnaaGreat.PFnExactGivePage
open Go.RowKit Go.Proofs.YtonhdiemjgdcnaaGreatW.PrintWords Go.Proofs.YtonhdiemjgdcnaaGreatW.PrintLast Go.Proofs.YtonhdiemjgdcnaaGreatW.PrintMore
attribute [local go_sem] zma zla zwa zxa zba zca zoa zna
def impl_in.f (a0:Int) (a1:Int) (a2:Int):Option (Bool):=if a0≥a1 then (some (decide (a0≤a2))) else (some false)
theorem impl_in.calls (a0:Int) (a1:Int) (a2:Int) (r:Bool) (w:World) (h:impl_in.f a0 a1 a2=some r):
  Calls Tryz.prog 118 #[.int .i64 a0,.int .i64 a1,.int .i64 a2] w fun e w'=>e= .returned (.bool r)∧Drawn0 w w':=by
 have H:(if a0≥a1 then (some (decide (a0≤a2))) else (some false))=some r:=h
 clear h
 by_cases c4:a0≥a1
 ·rw [if_pos c4] at H
  have c4b0:decide (a1≤a0)=true:=z6 c4
  clear c4
  obtain rfl:=z6a H
  go_enter Tryz.func118,Tryz.ntmps118
  exact zq167
 ·rw [if_neg c4] at H
  have c4b0:decide (a1≤a0)=false:=z7 c4
  clear c4
  obtain rfl:=z6a H
  go_enter Tryz.func118,Tryz.ntmps118
  exact zq167
def impl_isPage.f (l0_0:List ByteArray) (l0_1:List (S110)) (a1:Int):Option (Bool):=(impl_in.f a1 0 (wrap64 ((l0_0.length:Int)-1))).bind fun t470=>(some t470)
theorem impl_isPage.calls (A0:Option Addr) (c0:Nat) (l2:List ByteArray) (A1:Option Addr) (c1:Nat) (l3:List (S110)) (a1:Int) (r:Bool) (w:World) (r0:Kd.C Kd.string w A0 l2.length l2) (h0:l2.length≤c0) (r1:Kd.C k110 w A1 l3.length l3) (h2:l3.length≤c1) (h:impl_isPage.f l2 l3 a1=some r):
  Calls Tryz.prog 86 #[.agg #[.slice A0 l2.length c0,.slice A1 l3.length c1],.int .i64 a1] w fun e w'=>e= .returned (.bool r)∧Below w.heap.size w w':=by
 have hu32:=Tryz.underlying37
 clear r0 h0
 clear r1 h2
 have HB:=zz (z1a w.heap.size w)
 have H:((impl_in.f a1 0 (wrap64 ((l2.length:Int)-1))).bind fun t0=>(some t0))=some r:=h
 clear h
 replace H:=z2a H
 obtain ⟨t0,A2,H⟩:=H
 replace H:(some t0)=some r:=H
 have A3:=zz A2
 clear A2
 obtain rfl:=z6a H
 go_enter Tryz.func86,Tryz.ntmps86
 go_wp2_with (first|((with_reducible refine zd (N:=2) rfl ?_);refine zx rfl (N:=2) rfl (cs:= #[.slice A0 l2.length c0,.slice A1 l3.length c1]) (t:=37) zq27 ?_;intro g0 hg w4 hbox hb;have B0:=zz hbox;have G0:=zz (zq15:w.heap.size≤g0);replace HB:=zz (ze zq0 hb);clear hb hbox hg;obtain ⟨_,_,_,_⟩:=zV B0.1)|((with_reducible refine zr (f:=118) rfl ?_);refine zN (some 10) rfl rfl Tryz.func118 zq13 rfl #[.int .i64 a1,.int .i64 0,.int .i64 (wrap64 ((l2.length:Int)-1))] rfl zq8 ?_;(with_reducible refine (impl_in.calls a1 0 (wrap64 ((l2.length:Int)-1)) t0 _ A3.1).mono ?_);rintro e w' ⟨rfl,⟨nd,rfl⟩⟩;refine ⟨_,rfl,?_⟩))
 go_ret
 exact ⟨zq16,zq4 G0.1⟩
def impl_SyncDisk.l0:Nat→List (S110)→Int→Int→List ByteArray→List (S110)→List ByteArray→List (S110)→Option (List ByteArray×(List (S110)))
 |0,_,_,_,_,_,_,_=>none
 |k+1,x9,x10,x11,x472000,x472001,x480000,x480001=>if x11<x10 then (if 0≤x11 then (if x11<(x9.length:Int) then ((impl_isPage.f x472000 x472001 ((zv x9 x11).f0)).bind fun t482=>(if t482=true then (if 0≤((zv x9 x11).f0) then (if ((zv x9 x11).f0)<(x480000.length:Int) then (impl_SyncDisk.l0 k x9 x10 (wrap64 (x11+1)) x472000 x472001 (x480000.set (((zv x9 x11).f0):Int).toNat ((zv x9 x11).f1)) x480001) else (none)) else (none)) else (impl_SyncDisk.l0 k x9 x10 (wrap64 (x11+1)) x472000 x472001 x480000 x480001))) else (none)) else (none)) else (some (x480000,([]:List (S110))))
def impl_SyncDisk.f (k:Nat) (l0_0:List ByteArray) (l0_1:List (S110)):Option (List ByteArray×(List (S110))):=(impl_cloneDisk.f l0_0 l0_1).bind fun bt473=>(impl_SyncDisk.l0 k l0_1 (l0_1.length:Int) 0 l0_0 l0_1 bt473.1 bt473.2)
theorem impl_SyncDisk.calls (k:Nat) (A0:Option Addr) (c0:Nat) (l2:List ByteArray) (A1:Option Addr) (c1:Nat) (l3:List (S110)) (r1:List ByteArray) (r2:List (S110)) (w:World) (r0:Kd.C Kd.string w A0 l2.length l2) (h0:l2.length≤c0) (r3:Kd.C k110 w A1 l3.length l3) (h2:l3.length≤c1) (h:impl_SyncDisk.f k l2 l3=some (r1,r2)):
  Calls Tryz.prog 43 #[.agg #[.slice A0 l2.length c0,.slice A1 l3.length c1]] w fun e w'=>∃v0 v1:Value,e= .returned (.agg #[v0,v1])∧Kd.R Kd.string 9 w' w.heap.size (fun _=>True) v0 r1∧Kd.R k110 110 w' w.heap.size (fun _=>True) v1 r2∧Below w.heap.size w w':=by
 have hu32:=Tryz.underlying37
 have hu135:=Tryz.underlying110
 have R0:=zz r0
 have C0:=zz h0
 clear r0 h0
 have R1:=zz r3
 have C1:=zz h2
 clear r3 h2
 have HB:=zz (z1a w.heap.size w)
 have H:((impl_cloneDisk.f l2 l3).bind fun b0=>(impl_SyncDisk.l0 k l3 (l3.length:Int) 0 l2 l3 b0.1 b0.2))=some (r1,r2):=h
 clear h
 replace H:=z2a H
 obtain ⟨⟨t0,t1⟩,A4,H⟩:=H
 replace H:(impl_SyncDisk.l0 k l3 (l3.length:Int) 0 l2 l3 t0 t1)=some (r1,r2):=H
 have A2:=zz A4
 clear A4
 have H':=zz H
 clear H
 go_enter Tryz.func43,Tryz.ntmps43
 go_wp2_with (first|((with_reducible refine zd (N:=1) rfl ?_);refine zx rfl (N:=1) rfl (cs:= #[.slice A0 l2.length c0,.slice A1 l3.length c1]) (t:=37) zq27 ?_;intro g0 hg w3 hbox hb;have B0:=zz hbox;have G0:=zz (zq15:w.heap.size≤g0);replace HB:=zz (ze zq0 hb);clear hb hbox hg)|((with_reducible refine zd (N:=2) rfl ?_);refine zx rfl (N:=2) rfl (cs:= #[.slice none 0 0,.slice none 0 0]) (t:=37) zq27 ?_;intro g1 hg w4 hbox hb;have B2:=zz hbox;have G1:=zz (zq25 G0.1:w.heap.size≤g1);have N0:=zz (zq28 B0.1:g0≠g1);have N1:=zz (zq29 B0.1:g1≠g0);replace B0:=zz (zg (g:=g0) (o:= .cells #[.slice A0 l2.length c0,.slice A1 l3.length c1] 37 (0,0)) (zq1 B0.1) hb);replace HB:=zz (ze (zq4 G0.1) hb);clear hb hbox hg;have hnb5:=N0.1;have hnc5:=N1.1;obtain ⟨_,_,_,_⟩:=zV B0.1)|((with_reducible refine zr (f:=46) rfl ?_);refine zN (some 7) rfl rfl Tryz.func46 zq13 rfl #[.agg #[.slice A0 l2.length c0,.slice A1 l3.length c1]] rfl zq8 ?_;(with_reducible refine (impl_cloneDisk.calls _ _ l2 _ _ l3 t0 t1 _ ?side1 ?side2 ?side3 ?side4 A2.1).mono ?_);(case side1=>repeat (first|exact (Kd.C_below R0.1 HB.1)|(with_reducible refine Kd.C_alloc ?_ _)|(with_reducible refine Kd.C_drewN ?_ _)|(with_reducible refine Kd.C_drew ?_)));(case side2=>exact C0.1);(case side3=>repeat (first|exact (Kd.C_below R1.1 HB.1)|(with_reducible refine Kd.C_alloc ?_ _)|(with_reducible refine Kd.C_drewN ?_ _)|(with_reducible refine Kd.C_drew ?_)));(case side4=>exact C1.1);rintro e w7 ⟨v474,v477,rfl,ho0,ho1,hb⟩;refine ⟨_,rfl,?_⟩;(first|have rs_v474:=zga (P:=Tryz.prog) ho0|have rs_v474:=zga (P:=Tryz.prog) (Kd.S_R ho0)|skip);(first|have rs_v477:=zga (P:=Tryz.prog) ho1|have rs_v477:=zga (P:=Tryz.prog) (Kd.S_R ho1)|skip);have O0:=zz (Kd.R_lower ho0 (zD (zq5 G0.1 G1.1)));have O1:=zz (Kd.R_lower ho1 (zD (zq5 G0.1 G1.1)));replace B0:=zz (zg (g:=g0) (o:= .cells #[.slice A0 l2.length c0,.slice A1 l3.length c1] 37 (0,0)) (zq1 B0.1) hb);replace B2:=zz (zg (g:=g1) (o:= .cells #[.slice none 0 0,.slice none 0 0] 37 (0,0)) (zq1 B2.1) hb);replace HB:=zz (ze (zq5 G0.1 G1.1) hb);(try clear hb);(try clear hb2);(try clear hk);(try clear hi);(try clear ho0);(try clear ho1))|((with_reducible refine zd (N:=3) rfl ?_);refine zx rfl (N:=3) rfl (cs:= #[.slice none 0 0,.slice none 0 0]) (t:=37) zq27 ?_;intro g2 hg w8 hbox hb;have B4:=zz hbox;have G2:=zz (zq35 G0.1 G1.1:w.heap.size≤g2);have N2:=zz (zq28 B0.1:g0≠g2);have N3:=zz (zq29 B0.1:g2≠g0);have N4:=zz (zq43 B2.1:g1≠g2);have N5:=zz (zq44 B2.1:g2≠g1);replace O0:=zz (Kd.R_below (zq17 O0.1) hb);replace O1:=zz (Kd.R_below (zq17 O1.1) hb);replace B0:=zz (zg (g:=g0) (o:= .cells #[.slice A0 l2.length c0,.slice A1 l3.length c1] 37 (0,0)) (zq1 B0.1) hb);replace B2:=zz (zg (g:=g1) (o:= .cells #[.slice none 0 0,.slice none 0 0] 37 (0,0)) (zq1 B2.1) hb);replace HB:=zz (ze (zq5 G0.1 G1.1) hb);clear hb hbox hg;obtain ⟨Ao9,co9,eo9⟩:=Kd.R_slice O0.1;subst eo9;have hnb10:=N3.1;have hnc10:=N2.1;have hnb11:=N5.1;have hnc11:=N4.1;obtain ⟨_,_,_,_⟩:=zV B4.1;obtain ⟨A5,c11,e0⟩:=Kd.R_slice O1.1;subst e0;obtain ⟨_,_,_,_⟩:=zV B0.1))
 go_loopg [11] k (fun kq v2 w'=>∃(x0:Int) (x1:List ByteArray) (u0:Value),v2= .int .i64 x0∧Z0 (impl_SyncDisk.l0 kq l3 (l3.length:Int) x0 l2 l3 x1 t1=some (r1,r2))∧Z0 (kq≤k)∧Z0 (Kd.R Kd.string 9 w' w.heap.size (fun _=>True) u0 x1)∧Z0 (Kd.R k110 110 w' w.heap.size (fun _=>True) (.slice A5 t1.length c11) t1)∧Z0 (w'.heap[g0]?=some (.cells #[(.slice A0 l2.length c0),(.slice A1 l3.length c1)] 37 (0,0)))∧Z0 (w'.heap[g1]?=some (.cells #[(.slice none 0 0),(.slice none 0 0)] 37 (0,0)))∧Z0 (w'.heap[g2]?=some (.cells #[u0,(.slice A5 t1.length c11)] 37 (0,0)))∧Z0 (Below w.heap.size w w'))
 case atStart=>exact ⟨(0),(t0),(.slice Ao9 t0.length co9),zq18,H',⟨z3a _⟩,⟨zq69 O0.1 B4.1⟩,⟨zq69 O1.1 B4.1⟩,⟨by (with_reducible repeat (first|refine zk ?_ _|refine zl ?_|refine zh ?_ _));refine zka ?_ N2.1 _;(with_reducible repeat (first|refine zk ?_ _|refine zl ?_|refine zh ?_ _));refine zka ?_ N2.1 _;(with_reducible repeat (first|refine zk ?_ _|refine zl ?_|refine zh ?_ _));exact B0.1⟩,⟨by (with_reducible repeat (first|refine zk ?_ _|refine zl ?_|refine zh ?_ _));refine zka ?_ N4.1 _;(with_reducible repeat (first|refine zk ?_ _|refine zl ?_|refine zh ?_ _));refine zka ?_ N4.1 _;(with_reducible repeat (first|refine zk ?_ _|refine zl ?_|refine zh ?_ _));exact B2.1⟩,⟨by (with_reducible repeat (first|refine zk ?_ _|refine zl ?_|refine zh ?_ _));refine zW (cs:= #[.slice Ao9 t0.length co9,.slice none 0 0]) ?_ 1 _ rfl;(with_reducible repeat (first|refine zk ?_ _|refine zl ?_|refine zh ?_ _));refine zW (cs:= #[.slice none 0 0,.slice none 0 0]) ?_ 0 _ rfl;(with_reducible repeat (first|refine zk ?_ _|refine zl ?_|refine zh ?_ _));exact B4.1⟩,⟨zq11 G0.1 G1.1 G2.1⟩⟩
 case round=>
  clear H'
  try clear hcz12_0
  try clear hcz12_1
  try clear hcz14_0
  try clear hcz14_1
  try clear hcz6_0
  try clear hcz6_1
  try clear hfz12_0
  try clear hfz12_1
  try clear hfz14_0
  try clear hfz14_1
  try clear hfz6_0
  try clear hfz6_1
  obtain ⟨x0,x1,u0,rfl,HA,HK1,O2,O3,B0,B2,B4,HB⟩:=hrel
  cases gk with
  |zero=>exact absurd HA.1 (by simp [impl_SyncDisk.l0])
  |succ k1=>
   have H:=HA.1
   clear HA
   simp only [impl_SyncDisk.l0] at H
   by_cases c12:x0<(l3.length:Int)
   ·rw [if_pos c12] at H
    have c13:=z6 c12
    clear c12
    by_cases c14:0≤x0
    ·rw [if_pos c14] at H
     have c16b0:=z6 c14
     clear c14
     by_cases c18:x0<(l3.length:Int)
     ·rw [if_pos c18] at H
      have c17b0:=z6 c18
      clear c18
      replace H:=z2a H
      obtain ⟨t2,A6,H⟩:=H
      replace H:(if t2=true then (if 0≤((zv l3 x0).f0) then (if ((zv l3 x0).f0)<(x1.length:Int) then (impl_SyncDisk.l0 k1 l3 (l3.length:Int) (wrap64 (x0+1)) l2 l3 (x1.set (((zv l3 x0).f0):Int).toNat ((zv l3 x0).f1)) t1) else (none)) else (none)) else (impl_SyncDisk.l0 k1 l3 (l3.length:Int) (wrap64 (x0+1)) l2 l3 x1 t1))=some (r1,r2):=H
      have A7:=zz A6
      clear A6
      by_cases c22:t2=true
      ·subst c22
       rw [if_pos rfl] at H
       by_cases c23:0≤((zv l3 x0).f0)
       ·rw [if_pos c23] at H
        have c20b0:=z6 c23
        clear c23
        by_cases c24:((zv l3 x0).f0)<(x1.length:Int)
        ·rw [if_pos c24] at H
         have c21b0:=z6 c24
         clear c24
         obtain ⟨y0,i0⟩:∃y_:List ByteArray,y_=(x1.set (((zv l3 x0).f0):Int).toNat ((zv l3 x0).f1)):=⟨_,rfl⟩
         replace H:(impl_SyncDisk.l0 k1 l3 (l3.length:Int) (wrap64 (x0+1)) l2 l3 y0 t1)=some (r1,r2):=zq20
         have Y0:=zz i0
         clear i0
         have H':=zz H
         clear H
         have p0:0≤(x0:Int):=z8 zq21
         have q0:x0<(l3.length:Int):=z8 zq21
         obtain ⟨b1,e1,k0,k2⟩:=zIa R1.1 x0 p0 q0
         cases e1
         replace k0:=(HB.1.cell (z0a w _ k0)).trans k0
         replace k2:=(HB.1.cell (z0a w _ k2)).trans k2
         replace p0:=eq_true p0
         replace q0:=eq_true q0
         go_wp2_with (first|((with_reducible refine zd (N:=5) rfl ?_);refine zx rfl (N:=5) rfl (cs:= #[.int .i64 0,.string (⟨#[]⟩:ByteArray)]) (t:=110) zq27 ?_;intro g3 hg w23 hbox hb;have B8:=zz hbox;have G3:=zz (zq91 G0.1 G1.1 G2.1:w.heap.size≤g3);have N6:=zz (zq81 B0.1:g0≠g3);have N7:=zz (zq82 B0.1:g3≠g0);have N8:=zz (zq43 B2.1:g1≠g3);have N9:=zz (zq44 B2.1:g3≠g1);have N10:=zz (zq95 B4.1:g2≠g3);have N11:=zz (zq96 B4.1:g3≠g2);replace O2:=zz (Kd.R_below (zq17 O2.1) hb);replace O3:=zz (Kd.R_below (Kd.R_elderB (zq17 O3.1) g3 (Nat.le_of_eq hg.symm)) hb);replace B0:=zz (zg (g:=g0) (o:= .cells #[.slice A0 l2.length c0,.slice (some b1) l3.length c1] 37 (0,0)) (zq1 B0.1) hb);replace B2:=zz (zg (g:=g1) (o:= .cells #[.slice none 0 0,.slice none 0 0] 37 (0,0)) (zq1 B2.1) hb);replace B4:=zz (zg (g:=g2) (o:= .cells #[u0,.slice A5 t1.length c11] 37 (0,0)) (zq1 B4.1) hb);replace HB:=zz (ze (zq11 G0.1 G1.1 G2.1) hb);clear hb hbox hg;have hnb24:=N7.1;have hnc24:=N6.1;have hnb25:=N9.1;have hnc25:=N8.1;have hnb26:=N11.1;have hnc26:=N10.1;obtain ⟨_,_,_,_⟩:=zV B8.1;have hnb28:=N0.1;have hnc28:=N1.1;have hnb29:=N2.1;have hnc29:=N3.1;obtain ⟨_,_,_,_⟩:=zV B0.1)|((with_reducible refine zr (f:=86) rfl ?_);refine zN (some 18) rfl rfl Tryz.func86 zq13 rfl #[.agg #[.slice A0 l2.length c0,.slice (some b1) l3.length c1],.int .i64 ((zv l3 x0).f0)] rfl zq8 ?_;(with_reducible refine (impl_isPage.calls _ _ l2 _ _ l3 ((zv l3 x0).f0) true _ ?side1 ?side2 ?side3 ?side4 A7.1).mono ?_);(case side1=>exact Kd.C_below R0.1 (zq36 G0.1 G1.1 G2.1 G3.1));(case side2=>exact C0.1);(case side3=>exact Kd.C_below R1.1 (zq36 G0.1 G1.1 G2.1 G3.1));(case side4=>exact C1.1);rintro e w5 ⟨rfl,hb⟩;refine ⟨_,rfl,?_⟩;replace O2:=zz (Kd.R_below (zq66 O2.1 B8.1) hb);replace O3:=zz (Kd.R_below (zq63 O3.1) hb);replace B0:=zz (zg (g:=g0) (o:= .cells #[.slice A0 l2.length c0,.slice (some b1) l3.length c1] 37 (0,0)) (zq23 N6.1 B0.1) hb);replace B2:=zz (zg (g:=g1) (o:= .cells #[.slice none 0 0,.slice none 0 0] 37 (0,0)) (zq23 N8.1 B2.1) hb);replace B4:=zz (zg (g:=g2) (o:= .cells #[u0,.slice A5 t1.length c11] 37 (0,0)) (zq23 N10.1 B4.1) hb);replace B8:=zz (zg (g:=g3) (o:= .cells #[.int .i64 ((zv l3 x0).f0),.string ((zv l3 x0).f1)] 110 (0,0)) (zq55 B8.1) hb);replace HB:=zz (ze (zq36 G0.1 G1.1 G2.1 G3.1) hb);(try clear hb);(try clear hb2);(try clear hk);(try clear hi);have hnb32:=N5.1;have hnc32:=N4.1;obtain ⟨_,_,_,_⟩:=zV B4.1;obtain ⟨_,_,_,_⟩:=zV B8.1;have p1:0≤(((zv l3 x0).f0):Int):=z8 zq21;have q1:(((zv l3 x0).f0):Int)<((x1.length:Int):Int):=z8 zq21;obtain ⟨go22,c25,e2,g4,gl22,cl22,HG22⟩:=Kd.R_form O2.1 zq9;(first|cases e2|(injection e2 with ea_ en_ ec_;(first|subst ea_|(injection ea_ with ea_;subst ea_));subst ec_;clear en_));have GB22:=zz g4;clear g4 gl22 HG22;obtain ⟨hx22_0,hf22_0⟩:=Kd.R_celln (⟨#[]⟩:ByteArray) O2.1 (((zv l3 x0).f0):Int) p1 q1;replace p1:=eq_true p1;replace q1:=eq_true q1;obtain ⟨hy35_,hz35_⟩:=Kd.R_celln (⟨#[]⟩:ByteArray) O2.1 (((zv l3 x0).f0):Int) (z8 zq21) (z8 zq21);have HP35:=Kd.R_putg O2.1 (((zv l3 x0).f0):Int) ((zv l3 x0).f1))|((with_reducible refine zm (t:=9) (p:=25) rfl ?_);refine zGa (t:=9) (p:=25) (v:= ?vo_w36) (w1:=(w5.setCell ⟨go22,(((zv l3 x0).f0):Int).toNat,none⟩ (.string ((zv l3 x0).f1)))) ?hg ?ho ?hn ?hr ?_;(case ho=>rfl);(case hg=>rfl);(case hn=>rfl);(case hr=>first|(go_simp;done)|(go_simp;rfl));intro w6 hw;have hg:w5.grownBy w6 (some go22):=(by rw [hw];exact HP35.2);have hp_:Kd.R Kd.string 9 w6 w.heap.size (fun _=>True) (.slice (some ⟨go22,0,none⟩) x1.length c25) y0:=(by rw [hw,Y0.1];exact HP35.1);clear HP35;replace O3:=zz (Kd.R_over' (v:=(.slice (some ⟨go22,0,none⟩) x1.length c25)) (zq17 O3.1) (Kd.R_typed O2.1) zq31 hg);replace B0:=zz (zK (g:=g0) (o:= .cells #[.slice A0 l2.length c0,.slice (some b1) l3.length c1] 37 (0,0)) (zq1 B0.1) hg (Kd.R_ne O2.1 B0.1 zq31));replace B2:=zz (zK (g:=g1) (o:= .cells #[.slice none 0 0,.slice none 0 0] 37 (0,0)) (zq1 B2.1) hg (Kd.R_ne O2.1 B2.1 zq31));replace B4:=zz (zK (g:=g2) (o:= .cells #[.slice (some ⟨go22,0,none⟩) x1.length c25,.slice A5 t1.length c11] 37 (0,0)) (zq1 B4.1) hg (Kd.R_ne O2.1 B4.1 zq31));replace B8:=zz (zK (g:=g3) (o:= .cells #[.int .i64 ((zv l3 x0).f0),.string ((zv l3 x0).f1)] 110 (0,0)) (zq1 B8.1) hg (Kd.R_ne O2.1 B8.1 zq31));replace O2:=zz hp_;replace HB:=zz (zq108 GB22.1:Below w.heap.size w w6);clear hg hw hp_))
         go_roundg k1
         case measure=>have:=HK1.1;omega
         case rel=>exact ⟨(wrap64 (x0+1)),(y0),(.slice (some ⟨go22,0,none⟩) x1.length c25),zq18,H',⟨zq51 HK1.1⟩,⟨by (with_reducible repeat (first|apply Kd.R_alloc|apply Kd.R_drewN|apply Kd.R_drew));exact O2.1⟩,⟨by (with_reducible repeat (first|apply Kd.R_alloc|apply Kd.R_drewN|apply Kd.R_drew));exact Kd.R_mono O3.1 (fun _ hk=>trivial)⟩,⟨by (with_reducible repeat (first|refine zk ?_ _|refine zl ?_|refine zh ?_ _));exact B0.1⟩,⟨by (with_reducible repeat (first|refine zk ?_ _|refine zl ?_|refine zh ?_ _));exact B2.1⟩,⟨by (with_reducible repeat (first|refine zk ?_ _|refine zl ?_|refine zh ?_ _));exact B4.1⟩,⟨zq36 G0.1 G1.1 G2.1 G3.1⟩⟩
        ·rw [if_neg c24] at H
         exact absurd H zq38
       ·rw [if_neg c23] at H
        exact absurd H zq38
      ·replace c22:=Bool.eq_false_iff.mpr c22
       subst c22
       rw [if_neg (show ¬(false=true) by decide)] at H
       have H':=zz H
       clear H
       have p0:0≤(x0:Int):=z8 zq21
       have q0:x0<(l3.length:Int):=z8 zq21
       obtain ⟨b1,e1,k0,k2⟩:=zIa R1.1 x0 p0 q0
       cases e1
       replace k0:=(HB.1.cell (z0a w _ k0)).trans k0
       replace k2:=(HB.1.cell (z0a w _ k2)).trans k2
       replace p0:=eq_true p0
       replace q0:=eq_true q0
       go_wp2_with (first|((with_reducible refine zd (N:=5) rfl ?_);refine zx rfl (N:=5) rfl (cs:= #[.int .i64 0,.string (⟨#[]⟩:ByteArray)]) (t:=110) zq27 ?_;intro g3 hg w37 hbox hb;have B8:=zz hbox;have G3:=zz (zq91 G0.1 G1.1 G2.1:w.heap.size≤g3);have N6:=zz (zq81 B0.1:g0≠g3);have N7:=zz (zq82 B0.1:g3≠g0);have N8:=zz (zq43 B2.1:g1≠g3);have N9:=zz (zq44 B2.1:g3≠g1);have N10:=zz (zq95 B4.1:g2≠g3);have N11:=zz (zq96 B4.1:g3≠g2);replace O2:=zz (Kd.R_below (zq17 O2.1) hb);replace O3:=zz (Kd.R_below (Kd.R_elderB (zq17 O3.1) g3 (Nat.le_of_eq hg.symm)) hb);replace B0:=zz (zg (g:=g0) (o:= .cells #[.slice A0 l2.length c0,.slice (some b1) l3.length c1] 37 (0,0)) (zq1 B0.1) hb);replace B2:=zz (zg (g:=g1) (o:= .cells #[.slice none 0 0,.slice none 0 0] 37 (0,0)) (zq1 B2.1) hb);replace B4:=zz (zg (g:=g2) (o:= .cells #[u0,.slice A5 t1.length c11] 37 (0,0)) (zq1 B4.1) hb);replace HB:=zz (ze (zq11 G0.1 G1.1 G2.1) hb);clear hb hbox hg;have hnb38:=N7.1;have hnc38:=N6.1;have hnb39:=N9.1;have hnc39:=N8.1;have hnb40:=N11.1;have hnc40:=N10.1;obtain ⟨_,_,_,_⟩:=zV B8.1;have hnb42:=N0.1;have hnc42:=N1.1;have hnb43:=N2.1;have hnc43:=N3.1;obtain ⟨_,_,_,_⟩:=zV B0.1)|((with_reducible refine zr (f:=86) rfl ?_);refine zN (some 18) rfl rfl Tryz.func86 zq13 rfl #[.agg #[.slice A0 l2.length c0,.slice (some b1) l3.length c1],.int .i64 ((zv l3 x0).f0)] rfl zq8 ?_;(with_reducible refine (impl_isPage.calls _ _ l2 _ _ l3 ((zv l3 x0).f0) false _ ?side1 ?side2 ?side3 ?side4 A7.1).mono ?_);(case side1=>exact Kd.C_below R0.1 (zq36 G0.1 G1.1 G2.1 G3.1));(case side2=>exact C0.1);(case side3=>exact Kd.C_below R1.1 (zq36 G0.1 G1.1 G2.1 G3.1));(case side4=>exact C1.1);rintro e w45 ⟨rfl,hb⟩;refine ⟨_,rfl,?_⟩;replace O2:=zz (Kd.R_below (zq66 O2.1 B8.1) hb);replace O3:=zz (Kd.R_below (zq63 O3.1) hb);replace B0:=zz (zg (g:=g0) (o:= .cells #[.slice A0 l2.length c0,.slice (some b1) l3.length c1] 37 (0,0)) (zq23 N6.1 B0.1) hb);replace B2:=zz (zg (g:=g1) (o:= .cells #[.slice none 0 0,.slice none 0 0] 37 (0,0)) (zq23 N8.1 B2.1) hb);replace B4:=zz (zg (g:=g2) (o:= .cells #[u0,.slice A5 t1.length c11] 37 (0,0)) (zq23 N10.1 B4.1) hb);replace B8:=zz (zg (g:=g3) (o:= .cells #[.int .i64 ((zv l3 x0).f0),.string ((zv l3 x0).f1)] 110 (0,0)) (zq55 B8.1) hb);replace HB:=zz (ze (zq36 G0.1 G1.1 G2.1 G3.1) hb);(try clear hb);(try clear hb2);(try clear hk);(try clear hi)))
       go_roundg k1
       case measure=>have:=HK1.1;omega
       case rel=>exact ⟨(wrap64 (x0+1)),(x1),(u0),zq18,H',⟨zq51 HK1.1⟩,⟨by (with_reducible repeat (first|apply Kd.R_alloc|apply Kd.R_drewN|apply Kd.R_drew));exact O2.1⟩,⟨by (with_reducible repeat (first|apply Kd.R_alloc|apply Kd.R_drewN|apply Kd.R_drew));exact Kd.R_mono O3.1 (fun _ hk=>trivial)⟩,⟨by (with_reducible repeat (first|refine zk ?_ _|refine zl ?_|refine zh ?_ _));exact B0.1⟩,⟨by (with_reducible repeat (first|refine zk ?_ _|refine zl ?_|refine zh ?_ _));exact B2.1⟩,⟨by (with_reducible repeat (first|refine zk ?_ _|refine zl ?_|refine zh ?_ _));exact B4.1⟩,⟨zq36 G0.1 G1.1 G2.1 G3.1⟩⟩
     ·rw [if_neg c18] at H
      exact absurd H zq38
    ·rw [if_neg c14] at H
     exact absurd H zq38
   ·rw [if_neg c12] at H
    have c13:=z7 c12
    clear c12
    simp only [Option.some.injEq,Prod.mk.injEq] at H
    obtain ⟨rfl,rfl⟩:=H
    have hnb46:=N3.1
    have hnc46:=N2.1
    have hnb47:=N5.1
    have hnc47:=N4.1
    have hcz48_0:wr.cell? ⟨g2,0,none⟩=some (u0):=(zj B4.1 0).trans rfl
    have hcz48_1:wr.cell? ⟨g2,1,none⟩=some (.slice A5 t1.length c11):=(zj B4.1 1).trans rfl
    have hfz48_0:=zu B4.1 0
    have hfz48_1:=zu B4.1 1
    obtain ⟨A8,c26,e3⟩:=Kd.R_slice O2.1
    subst e3
    have hnb50:=N1.1
    have hnc50:=N0.1
    have hcz51_0:wr.cell? ⟨g1,0,none⟩=some (.slice none 0 0):=(zj B2.1 0).trans rfl
    have hcz51_1:wr.cell? ⟨g1,1,none⟩=some (.slice none 0 0):=(zj B2.1 1).trans rfl
    have hfz51_0:=zu B2.1 0
    have hfz51_1:=zu B2.1 1
    go_wp2
    refine bodyPost_ret (results_cell_row rfl _ _ g1 37 #[.slice A8 x1.length c26,.slice none 0 0] (0,0) _ rfl (by (with_reducible repeat (first|refine zk ?_ _|refine zl ?_|refine zh ?_ _));refine zW (cs:= #[.slice A8 x1.length c26,.slice none 0 0]) ?_ 1 _ rfl;(with_reducible repeat (first|refine zk ?_ _|refine zl ?_|refine zh ?_ _));refine zW (cs:= #[.slice none 0 0,.slice none 0 0]) ?_ 0 _ rfl;(with_reducible repeat (first|refine zk ?_ _|refine zl ?_|refine zh ?_ _));refine zka ?_ N4.1 _;(with_reducible repeat (first|refine zk ?_ _|refine zl ?_|refine zh ?_ _));exact B2.1) Tryz.underlying37 rfl zq13) rfl ?_
    exact ⟨_,_,zq16,by (with_reducible repeat (first|apply Kd.R_alloc|apply Kd.R_drewN|apply Kd.R_drew));exact Kd.R_mono (Kd.R_far (p:=⟨g1,1,none⟩) (Kd.R_far (p:=⟨g1,0,none⟩) (Kd.R_far (p:=⟨g2,1,none⟩) (Kd.R_types (Kd.R_types O2.1 B4.1 zq31) B2.1 zq31) (fun _ hk=>hk.1.2) (.slice none 0 0)) (fun _ hk=>hk.2) (.slice A8 x1.length c26)) (fun _ hk=>hk.2) (.slice none 0 0)) (fun _ hk=>trivial),by first|exact Kd.R_nil _ _ _ _ _|exact Kd.N_nil _ _ _ _ _|exact Kd.V_nil _ _ _ _ _|exact Kd.Q_nil _ _ _ _ _|exact Kd.S_nil _ _ _ _ _,zq11 G0.1 G1.1 G2.1⟩
theorem zero_53 {W:World} {base:Nat}:k40.M W base (fun _=>False) ⟨0,0,0,[]⟩ Z40:=zlb _ _ _ (⟨0,0,0,[]⟩:S40) (Kd.S_nil _ _ _ _ _)
theorem zero_34 {W:World} {base:Nat}:kWork.M W base (fun _=>False) ([],[],0,[],[],[]) Z44:=
 kWork_mkM (Kd.R_nil _ _ _ _ (fun _=>False)) (Kd.R_nil _ _ _ _ (fun _=>False)) (Kd.Q_of_R (Kd.R_nil _ _ _ _ (fun _=>False))) (Kd.Q_of_R (Kd.R_nil _ _ _ _ (fun _=>False))) (Kd.Q_of_R (Kd.R_nil _ _ _ _ (fun _=>False))) (fun _ h=>h.elim) (fun _ h=>h.elim) (fun _ h=>h.elim) (fun _ h=>h.elim) (fun _ h=>h.elim) (fun _ h=>h.elim) (fun _ h=>h.elim) (fun _ h=>h.elim) (fun _ h=>h.elim) (fun _ h=>h.elim) (fun _ h=>h.elim) (fun _ h=>h.elim) (fun _ h=>h.elim) (fun _ h=>h.elim) (fun _ h=>h.elim)
theorem zero_56 {W:World} {base:Nat}:kTxn.M W base (fun _=>False) (⟨0,0,0,[]⟩,([],[],0,[],[],[]),0) Z46:=kTxn.M_mono (fun _ h=>h.elim id (fun h=>h.elim id id)) (comb zero_53 (comb zero_34 Mint (fun _ h=>h.elim)) (fun _ h=>h.elim))
theorem kStore_parts {W:World} {base:Nat} {ok:Nat→Prop} {a0:List ByteArray} {a1:List S110} {x:S40} {rs:List S135} {y:S40} {l0:List ByteArray} {l1:List S110} {l2:Int} {l3 l4 l5:List Int} {n:Int} {bw bf:Bool} {ds:List Value} (h:kStore.M W base ok ((a0,a1),x,rs,(y,(l0,l1,l2,l3,l4,l5),n),bw,bf) ds):∃cD cM A c cT,ds=cD++(cM++([.slice A rs.length c]++(cT++([.bool bw]++[.bool bf]))))∧cD.length=2∧cM.length=4∧cT.length=11∧(Own.srow 135 k135).M W base ok rs [.slice A rs.length c]:=by
 obtain ⟨cD,c1,okD,okB1,rfl,hD,h,a0,b0,x0⟩:=Own.apair_open h
 obtain ⟨cM,c2,okM,okB2,rfl,hM,h,a1,b1,x1⟩:=Own.apair_open h
 obtain ⟨cR,c3,okR,okB3,rfl,hR,h,a2,b2,x2⟩:=Own.apair_open h
 obtain ⟨cT,cB,okT,okB4,rfl,hT,hBB,a3,b3,x3⟩:=Own.apair_open h
 obtain ⟨cb,cf,okE,okF,rfl,hb,hf,-,-,-⟩:=Own.apair_open hBB
 obtain rfl:cb=[.bool bw]:=hb
 obtain rfl:cf=[.bool bf]:=hf
 obtain ⟨v,rfl,hS⟩:=hR
 obtain ⟨A,c,rfl⟩:=Kd.S_slice hS
 exact ⟨cD,cM,A,c,cT,rfl,kDisk.K_len (kDisk.K_of_M hD),k40.K_len (k40.K_of_M hM),kTxn.K_len (kTxn.K_of_M hT),_,rfl,Kd.S_mono hS (fun k h=>b0 k (b1 k (a2 k h)))⟩
theorem zbc (k:Nat) (l0:List ByteArray) (l1:List S110) (q0:List ByteArray) (q1:List S110) {cs:List Value} (w:World) (h:kDisk.K w (l0,l1) cs) (hf:impl_SyncDisk.f k l0 l1=some (q0,q1)):
  Calls Tryz.prog 43 #[.agg cs.toArray] w fun e w'=>∃ds:List Value,e= .returned (.agg ds.toArray)∧kDisk.M w' w.heap.size (Fr w w') (q0,q1) ds∧Below w.heap.size w w':=by
 obtain ⟨A0,c0,A1,c1,rfl,m0,r0,m1,r1⟩:=zza h
 refine (impl_SyncDisk.calls k A0 c0 l0 A1 c1 l1 q0 q1 w r0 m0 r1 m1 hf).mono ?_
 rintro e w' ⟨v0,v1,rfl,R0,R1,hb⟩
 have T0:=Own.R_tightB rfl R0
 have T1:=Own.R_tightB rfl R1
 exact ⟨[v0,v1],rfl,zub T0.1 T1.1 T0.2.1 T1.2.1 (Own.types_ne T0.2.2 T1.2.2 zq31),hb⟩
theorem zqb (k:Nat) (l0:List ByteArray) (l1:List S110) (q0:List ByteArray) (q1:List S110) {cs:List Value} (w:World) (h:kDisk.K w (l0,l1) cs) (hf:spec_SyncDisk.f k l0 l1=some (q0,q1)):
  Calls Tryz.prog 33 #[.agg cs.toArray] w fun e w'=>∃ds:List Value,e= .returned (.agg ds.toArray)∧kDisk.M w' w.heap.size (Fr w w') (q0,q1) ds∧Below w.heap.size w w':=by
 obtain ⟨A0,c0,A1,c1,rfl,m0,r0,m1,r1⟩:=zza h
 refine (spec_SyncDisk.calls k A0 c0 l0 A1 c1 l1 q0 q1 w r0 m0 r1 m1 hf).mono ?_
 rintro e w' ⟨v0,v1,rfl,R0,R1,hb⟩
 have T0:=Own.R_tightB rfl R0
 have T1:=Own.R_tightB rfl R1
 exact ⟨[v0,v1],rfl,zub T0.1 T1.1 T0.2.1 T1.2.1 (Own.types_ne T0.2.2 T1.2.2 zq31),hb⟩
def stopped_o_T2:Bool×List (List Nat×List Nat):=(true,[([],[]),([],[]),([],[]),([0],[]),([3,0,0],[0,3]),([0,1,3,4],[]),([5,1,4,0,1,3,4],[1,5]),([0,1,2,3,4,5,6],[]),([7,2,6,0,1,2,3,4,5,6],[2,7])])
def stopped_o_B2:List Nat:=[0,0,0,1,9,27,59,127,255]
theorem stopped_o_ok2_0:regT (zFa Tryz.f70 2) stopped_o_T2 stopped_o_B2 [] (.t 0 (.t 1 (.p 2 (.p 3 (.e 4 (.p 5 (.e 6 (.p 7 (.e 8 .d)))))))))=true:=zq13
theorem stopped_o (k:Nat) (a0:List ByteArray) (a1:List S110) (x:S40) (rs:List S135) (y:S40) (l0:List ByteArray) (l1:List S110) (l2:Int) (l3 l4 l5:List Int) (n:Int) (bw bf:Bool) {e0:List ByteArray} {e1:List S110} {z:S40} {cs cE cZ:List Value} {base a_ b_ a2 b2_:Nat} (lo:Nat) (w:World) (h:kStore.K w ((a0,a1),x,rs,(y,(l0,l1,l2,l3,l4,l5),n),bw,bf) cs) (hd:kDisk.M w base (fun k=>True∧Iv a_ b_ k) (e0,e1) cE) (hm:k40.M w base (fun k=>True∧Iv a2 b2_ k) z cZ) (hb:base≤w.heap.size) (ho:(lo≤a_∧lo≤a2∧lo≤w.heap.size∧(b_≤a2∨b2_≤a_))∧b_≤w.heap.size∧b2_≤w.heap.size) (f1:impl_cloneDisk.f a0 a1=some (a0,a1)) (f2:impl_cloneMeta.f k x.f0 x.f1 x.f2 x.f3=some (x.f0,x.f1,x.f2,x.f3)) (f3:∀r∈rs,impl_cloneMeta.f k r.f1.f0 r.f1.f1 r.f1.f2 r.f1.f3=some (r.f1.f0,r.f1.f1,r.f1.f2,r.f1.f3)) (f4:impl_cloneMeta.f k y.f0 y.f1 y.f2 y.f3=some (y.f0,y.f1,y.f2,y.f3)) (f5:((l0.length≤2000000∧l1.length≤2000000)∧l3.length≤2000000∧l4.length≤2000000∧l5.length≤2000000)) (hl:rs.length≤2000000):
  Calls Tryz.prog 70 #[.agg cs.toArray,.agg cE.toArray,.agg cZ.toArray] w fun e w'=>∃ds:List Value,e= .returned (.agg ds.toArray)∧kStore.M w' base (fun k=>lo≤k∧k<w'.heap.size) ((e0,e1),z,rs,(⟨0,0,0,[]⟩,([],[],0,[],[],[]),0),false,false) ds∧Below w.heap.size w w':=by
 have KS0:=h
 obtain ⟨cD,_,rfl,hD,cM,_,rfl,hM,cR,_,rfl,hR,cT,_,rfl,hT,cB,cF,rfl,hW,hF⟩:=h
 obtain rfl:cB=[.bool bw]:=hW
 obtain rfl:cF=[.bool bf]:=hF
 have hR2:=hR
 obtain ⟨AR,ccR,rfl,mR,rR⟩:=hR
 obtain ⟨cs,hcs⟩:∃cs,cs=cD++(cM++([.slice AR rs.length ccR]++(cT++([.bool bw]++[.bool bf])))):=⟨_,rfl⟩
 rw [←hcs] at KS0 ⊢
 have KS:=zz KS0
 have Lcs:=zz (show cs.length=20 from kStore.K_len KS0)
 have F1:=zz f1
 have F2:=zz f2
 have F3:=zz f3
 have F4:=zz f4
 have F5:=zz f5
 have FL:=zz hl
 clear KS0 hD hM hT hR2 mR rR hcs f1 f2 f3 f4 f5 hl
 have LE:=zz (show cE.length=2 from Kd.K_len _ (Kd.K_of_M _ hd));have OE:=zz (zU (Kd.K_of_M _ hd));have LZ:=zz (show cZ.length=4 from Kd.K_len _ (Kd.K_of_M _ hm));have OZ:=zz (zU (Kd.K_of_M _ hm))
 have HBs:=zz hb
 have O:=zz ho
 have E:=zz (((Env.start w).add (Fct.made kDisk base a_ b_ (fun _=>True) (e0,e1) cE) ho.2.1 hd).add (Fct.made k40 base a2 b2_ (fun _=>True) z cZ) ho.2.2 hm)
 clear hd hm ho hb
 go_enter Tryz.func70,Tryz.ntmps70
 go_wp2_with (first|((with_reducible refine zd (N:=8) rfl ?_);replace O:=zz (And.intro E.1.le O.1);replace E:=zz (E.1.alloc cs 67 (g:=w.heap.size) rfl);replace E:=zz (E.1.alloc cE 37 (g:=(w.heap.size+1)) zq38);replace E:=zz (E.1.alloc cZ 40 (g:=(w.heap.size+1+1)) zq38);replace E:=zz (E.1.alloc Z67 67 (g:=(w.heap.size+1+1+1)) zq38);refine zf rfl 67 _ rfl w.heap.size 0 [] cs [] _ rfl (E.1.box 3 rfl) zq6 (rfl) Tryz.underlying67 rfl zq59 ?_))
 ((with_reducible refine (cloneStore_o k a0 a1 x rs y l0 l1 l2 l3 l4 l5 n bw bf _ (E.1.K KS.1) F1.1 F2.1 F3.1 F4.1 F5.1 FL.1).mono ?_);rintro e w5 ⟨d0,rfl,M0,hb⟩)
 have L0:=zz (show d0.length=20 from Kd.K_len _ (Kd.K_of_M _ M0));have Q0:=zz (zU (Kd.K_of_M _ M0))
 obtain ⟨n0,m10,hT,hE⟩:=E.1.made_ M0 hb;replace O:=zz (And.intro hT O.1);replace E:=zz hE;clear hT hE M0 hb
 obtain ⟨gD,gM,AG,cG,gT,hg,lD,lM,lT,hR⟩:=kStore_parts (E.1.made 0 rfl)
 have Ed2_:=zz hg;have LgD:=zz lD;have LgM:=zz lM;have LgT:=zz lT
 replace E:=zz (E.1.add (Fct.made (Own.srow 135 k135) w.heap.size n0 m10 (fun _=>True) rs [.slice AG rs.length cG]) (z3a _) ((Own.srow 135 k135).M_mono (fun k hk=>hk) hR))
 clear hg lD lM lT hR
 go_upto_region 2 with (first|((with_reducible refine zm (t:=67) (p:=7) rfl ?_);replace O:=zz (And.intro E.1.le O.1);replace E:=zz (E.1.alloc Z67 67 (g:=w5.heap.size) rfl);refine zn rfl 67 _ _ rfl rfl w5.heap.size 0 d0 [] Z67 [] rfl rfl (E.1.box 0 rfl) zq6 (rfl) (zq40 L0.1) (zq24 L0.1) Q0.1 ?_;intro W5_ hp hn;replace E:=E.1.put2 0 hp hn zq7;clear hp hn))
 replace E:=zz E.1.drew
 refine zfa stopped_o_ok2_0 (S:=fun w'=>w'.heap[(w.heap.size+1)]?=some (.cells (cE:List Value).toArray 37 (0,0))∧w'.heap[(w.heap.size+1+1)]?=some (.cells (cZ:List Value).toArray 40 (0,0))∧True) zq13 (fun _ _ _ _ h=>h) ⟨(E.1.box 5 rfl),(E.1.box 4 rfl),trivial⟩ (fun hHeld=> ?_)
 generalize hq:World.drew _=w6_ at hHeld ⊢;replace E:=E.1.to hq;clear hq
 refine zB (a':= ?_) rfl rfl zq22 37 _ rfl (w.heap.size+1) 0 [] cE [] _ rfl (fun w' hs=>hs.1) zq6 (rfl) Tryz.underlying37 rfl (by rw [LE.1];kernel_rfl) zq2 ?_
 refine zB (a':= ?_) rfl rfl zq22 40 _ rfl (w.heap.size+1+1) 0 [] cZ [] _ rfl (fun w' hs=>hs.2.1) zq6 (rfl) Tryz.underlying40 rfl (by rw [LZ.1];kernel_rfl) zq2 ?_
 iterate 2 (refine zM (v:= ?_) (a':= ?_) rfl rfl (Or.inl ⟨zq22,zq12⟩) zq2 ?_)
 refine zS rfl (zA rfl zq22 37 _ _ rfl w5.heap.size 0 cE [] gD (gM++([.slice AG rs.length cG]++(gT++([.bool bw]++[.bool bf])))) rfl rfl (E.1.box 0 rfl) (zq62 Ed2_.1) (rfl) (by rw [LE.1,LgD.1]) (by rw [LE.1];kernel_rfl) OE.1 (fun W9_ hp hn=> ?_))
 replace E:=E.1.put2 0 hp hn zq7;clear hp hn
 refine ⟨⟨(E.1.box 5 rfl),(E.1.box 4 rfl),trivial⟩,(fun hHeld=> ?_)⟩
 (refine zM (v:= ?_) (a':= ?_) rfl rfl (Or.inl ⟨zq22,zq12⟩) zq2 ?_)
 refine zS rfl (zA rfl zq22 40 _ _ rfl w5.heap.size 2 cZ cE gM ([.slice AG rs.length cG]++(gT++([.bool bw]++[.bool bf]))) rfl rfl (E.1.box 0 rfl) zq6 (LE.1) (by rw [LZ.1,LgM.1]) (by rw [LZ.1];kernel_rfl) OZ.1 (fun W10_ hp hn=> ?_))
 replace E:=E.1.put2 0 hp hn zq7;clear hp hn
 refine ⟨⟨(E.1.box 5 rfl),(E.1.box 4 rfl),trivial⟩,(fun hHeld=> ?_)⟩
 (refine zM (v:= ?_) (a':= ?_) rfl rfl (Or.inl ⟨zq22,zq12⟩) zq2 ?_)
 refine zS rfl (zA rfl zq22 46 _ _ rfl w5.heap.size 7 Z46 (cE++(cZ++[.slice AG rs.length cG])) gT ([.bool bw]++[.bool bf]) rfl rfl (E.1.box 0 rfl) zq6 zq64 (by rw [LgT.1];rfl) zq13 (zta rfl (zta rfl (zta rfl (zta rfl (zta rfl (zta rfl (zta rfl (zta rfl (zta rfl (zta rfl (zta rfl onesN))))))))))) (fun W11_ hp hn=> ?_))
 replace E:=E.1.put2 0 hp hn zq7;clear hp hn
 refine ⟨⟨(E.1.box 5 rfl),(E.1.box 4 rfl),trivial⟩,(fun hHeld=> ?_)⟩
 refine zX ?_
 clear hHeld
 obtain ⟨c0,E0,L1,O0⟩:=lump_ (cE++(cZ++([.slice AG rs.length cG]++(Z46++([.bool false]++[.bool false]))))) 20 zq64 (zH OE.1 (zH OZ.1 (zH (zPa rfl) (zH (zta rfl (zta rfl (zta rfl (zta rfl (zta rfl (zta rfl (zta rfl (zta rfl (zta rfl (zta rfl (zta rfl onesN))))))))))) (zH (zPa rfl) (zPa rfl))))))
 go_wp2_with (first|((with_reducible refine zm (t:=4) (p:=16) rfl ?_);refine zT rfl 4 _ _ rfl rfl w5.heap.size 18 (.bool false) (.bool bw) (cE++(cZ++([.slice AG rs.length cG]++Z46))) [.bool bf] rfl rfl (E.1.box 0 rfl) zq6 zq64 zq13 rfl rfl ?_;intro W12_ hp hn;replace E:=E.1.put2 0 hp hn zq7;clear hp hn)|((with_reducible refine zm (t:=4) (p:=17) rfl ?_);refine zT rfl 4 _ _ rfl rfl w5.heap.size 19 (.bool false) (.bool bf) (cE++(cZ++([.slice AG rs.length cG]++(Z46++[.bool false])))) [] rfl rfl (E.1.box 0 rfl) zq6 zq64 zq13 rfl rfl ?_;intro W13_ hp hn;replace E:=E.1.put2 0 hp hn zq7;clear hp hn)|((with_reducible refine zd (N:=18) rfl ?_);refine zf rfl 67 _ rfl w5.heap.size 0 [] c0 [] _ rfl (E.1.box 0 rfl) (zq62 E0.1) (rfl) Tryz.underlying67 rfl (zq24 L1.1) ?_)|((with_reducible refine zm (t:=67) (p:=6) rfl ?_);refine zn rfl 67 _ _ rfl rfl (w.heap.size+1+1+1) 0 c0 [] Z67 [] rfl rfl (E.1.box 3 rfl) zq6 (rfl) (zq40 L1.1) (zq24 L1.1) O0.1 ?_;intro W15_ hp hn;replace E:=E.1.put2 3 hp hn zq7;clear hp hn))
 have BX:=zz (show _=some (Obj.cells (c0:List Value).toArray 67 (0,0)) from by first|exact (E.1.box 3 rfl)|simpa only [aA,aN,aL] using (E.1.box 3 rfl))
 refine bodyPost_ret (zya rfl _ _ (w.heap.size+1+1+1) 67 _ _ _ rfl BX.1 Tryz.underlying67 rfl (zq122 L1.1)) rfl ?_
 exact ⟨_,rfl,(zq42 E0.1),E.1.below⟩
theorem l12Rest_o (a0:List ByteArray) (a1:List S110) (x:S40) (rs:List S135) (y:S40) (l0:List ByteArray) (l1:List S110) (l2:Int) (l3 l4 l5:List Int) (n:Int) (bw bf:Bool) {e0:List ByteArray} {e1:List S110} {z:S40} {cs cE cZ:List Value} {base a_ b_ a2 b2_:Nat} (lo:Nat) (w:World) (h:kStore.K w ((a0,a1),x,rs,(y,(l0,l1,l2,l3,l4,l5),n),bw,bf) cs) (hd:kDisk.M w base (fun k=>True∧Iv a_ b_ k) (e0,e1) cE) (hm:k40.M w base (fun k=>True∧Iv a2 b2_ k) z cZ) (hb:base≤w.heap.size) (ho:(lo≤a_∧lo≤a2∧lo≤w.heap.size∧(b_≤a2∨b2_≤a_))∧b_≤w.heap.size∧b2_≤w.heap.size) (f1:a0.length≤2000000∧a1.length≤2000000) (f2:zua x) (f3:∀r∈rs,zua r.f1) (f4:zua y) (f5:((l0.length≤2000000∧l1.length≤2000000)∧l3.length≤2000000∧l4.length≤2000000∧l5.length≤2000000)) (hl:rs.length≤2000000):
  Calls Tryz.prog 65 #[.agg cs.toArray,.agg cE.toArray,.agg cZ.toArray] w fun e w'=>∃ds:List Value,e= .returned (.agg ds.toArray)∧kStore.M w' base (fun k=>lo≤k∧k<w'.heap.size) ((e0,e1),z,rs,(⟨0,0,0,[]⟩,([],[],0,[],[],[]),0),false,false) ds∧Below w.heap.size w w':=by
 have KS0:=h
 obtain ⟨cD,_,rfl,hD,cM,_,rfl,hM,cR,_,rfl,hR,cT,_,rfl,hT,cB,cF,rfl,hW,hF⟩:=h
 obtain rfl:cB=[.bool bw]:=hW
 obtain rfl:cF=[.bool bf]:=hF
 have hR2:=hR
 obtain ⟨AR,ccR,rfl,mR,rR⟩:=hR
 obtain ⟨cs,hcs⟩:∃cs,cs=cD++(cM++([.slice AR rs.length ccR]++(cT++([.bool bw]++[.bool bf])))):=⟨_,rfl⟩
 rw [←hcs] at KS0 ⊢
 have KS:=zz KS0
 have Lcs:=zz (show cs.length=20 from kStore.K_len KS0)
 have F1:=zz f1
 have F2:=zz f2
 have F3:=zz f3
 have F4:=zz f4
 have F5:=zz f5
 have FL:=zz hl
 clear KS0 hD hM hT hR2 mR rR hcs f1 f2 f3 f4 f5 hl
 have LE:=zz (show cE.length=2 from Kd.K_len _ (Kd.K_of_M _ hd));have OE:=zz (zU (Kd.K_of_M _ hd));have LZ:=zz (show cZ.length=4 from Kd.K_len _ (Kd.K_of_M _ hm));have OZ:=zz (zU (Kd.K_of_M _ hm))
 have HBs:=zz hb
 have O:=zz ho
 have E:=zz (((Env.start w).add (Fct.made kDisk base a_ b_ (fun _=>True) (e0,e1) cE) ho.2.1 hd).add (Fct.made k40 base a2 b2_ (fun _=>True) z cZ) ho.2.2 hm)
 clear hd hm ho hb
 go_enter Tryz.func65,Tryz.ntmps65
 go_wp2_with (first|((with_reducible refine zd (N:=8) rfl ?_);replace O:=zz (And.intro E.1.le O.1);replace E:=zz (E.1.alloc cs 67 (g:=w.heap.size) rfl);replace E:=zz (E.1.alloc cE 37 (g:=(w.heap.size+1)) zq38);replace E:=zz (E.1.alloc cZ 40 (g:=(w.heap.size+1+1)) zq38);replace E:=zz (E.1.alloc Z67 67 (g:=(w.heap.size+1+1+1)) zq38);refine zf rfl 67 _ rfl w.heap.size 0 [] cs [] _ rfl (E.1.box 3 rfl) zq6 (rfl) Tryz.underlying67 rfl zq59 ?_))
 ((with_reducible refine (l12Copy_o a0 a1 x rs y l0 l1 l2 l3 l4 l5 n bw bf _ (E.1.K KS.1) F1.1 F2.1 F3.1 F4.1 F5.1 FL.1).mono ?_);rintro e w5 ⟨d0,rfl,M0,hb⟩)
 have L0:=zz (show d0.length=20 from Kd.K_len _ (Kd.K_of_M _ M0));have Q0:=zz (zU (Kd.K_of_M _ M0))
 obtain ⟨n0,m10,hT,hE⟩:=E.1.made_ M0 hb;replace O:=zz (And.intro hT O.1);replace E:=zz hE;clear hT hE M0 hb
 obtain ⟨gD,gM,AG,cG,gT,hg,lD,lM,lT,hR⟩:=kStore_parts (E.1.made 0 rfl)
 have Ed2_:=zz hg;have LgD:=zz lD;have LgM:=zz lM;have LgT:=zz lT
 replace E:=zz (E.1.add (Fct.made (Own.srow 135 k135) w.heap.size n0 m10 (fun _=>True) rs [.slice AG rs.length cG]) (z3a _) ((Own.srow 135 k135).M_mono (fun k hk=>hk) hR))
 clear hg lD lM lT hR
 obtain ⟨c0,E0,L1,O0⟩:=lump_ (cE++(cZ++([.slice AG rs.length cG]++(Z46++([.bool false]++[.bool false]))))) 20 zq64 (zH OE.1 (zH OZ.1 (zH (zPa rfl) (zH (zta rfl (zta rfl (zta rfl (zta rfl (zta rfl (zta rfl (zta rfl (zta rfl (zta rfl (zta rfl (zta rfl onesN))))))))))) (zH (zPa rfl) (zPa rfl))))))
 go_wp2_with (first|((with_reducible refine zm (t:=67) (p:=7) rfl ?_);replace O:=zz (And.intro E.1.le O.1);replace E:=zz (E.1.alloc Z67 67 (g:=w5.heap.size) rfl);refine zn rfl 67 _ _ rfl rfl w5.heap.size 0 d0 [] Z67 [] rfl rfl (E.1.box 0 rfl) zq6 (rfl) (zq40 L0.1) (zq24 L0.1) Q0.1 ?_;intro W5_ hp hn;replace E:=E.1.put2 0 hp hn zq7;clear hp hn)|((with_reducible refine zd (N:=10) rfl ?_);refine zf rfl 37 _ rfl (w.heap.size+1) 0 [] cE [] _ rfl (E.1.box 5 rfl) zq6 (rfl) Tryz.underlying37 rfl (by rw [LE.1];kernel_rfl) ?_)|((with_reducible refine zm (t:=37) (p:=11) rfl ?_);refine zn rfl 37 _ _ rfl rfl w5.heap.size 0 cE [] gD (gM++([.slice AG rs.length cG]++(gT++([.bool bw]++[.bool bf])))) rfl rfl (E.1.box 0 rfl) (zq62 Ed2_.1) (rfl) (by rw [LE.1,LgD.1]) (by rw [LE.1];kernel_rfl) OE.1 ?_;intro W6_ hp hn;replace E:=E.1.put2 0 hp hn zq7;clear hp hn)|((with_reducible refine zd (N:=12) rfl ?_);refine zf rfl 40 _ rfl (w.heap.size+1+1) 0 [] cZ [] _ rfl (E.1.box 4 rfl) zq6 (rfl) Tryz.underlying40 rfl (by rw [LZ.1];kernel_rfl) ?_)|((with_reducible refine zm (t:=40) (p:=13) rfl ?_);refine zn rfl 40 _ _ rfl rfl w5.heap.size 2 cZ cE gM ([.slice AG rs.length cG]++(gT++([.bool bw]++[.bool bf]))) rfl rfl (E.1.box 0 rfl) zq6 (LE.1) (by rw [LZ.1,LgM.1]) (by rw [LZ.1];kernel_rfl) OZ.1 ?_;intro W7_ hp hn;replace E:=E.1.put2 0 hp hn zq7;clear hp hn)|((with_reducible refine zm (t:=46) (p:=15) rfl ?_);refine zn rfl 46 _ _ rfl rfl w5.heap.size 7 Z46 (cE++(cZ++[.slice AG rs.length cG])) gT ([.bool bw]++[.bool bf]) rfl rfl (E.1.box 0 rfl) zq6 zq64 (by rw [LgT.1];rfl) zq13 (zta rfl (zta rfl (zta rfl (zta rfl (zta rfl (zta rfl (zta rfl (zta rfl (zta rfl (zta rfl (zta rfl onesN))))))))))) ?_;intro W8_ hp hn;replace E:=E.1.put2 0 hp hn zq7;clear hp hn)|((with_reducible refine zm (t:=4) (p:=16) rfl ?_);refine zT rfl 4 _ _ rfl rfl w5.heap.size 18 (.bool false) (.bool bw) (cE++(cZ++([.slice AG rs.length cG]++Z46))) [.bool bf] rfl rfl (E.1.box 0 rfl) zq6 zq64 zq13 rfl rfl ?_;intro W9_ hp hn;replace E:=E.1.put2 0 hp hn zq7;clear hp hn)|((with_reducible refine zm (t:=4) (p:=17) rfl ?_);refine zT rfl 4 _ _ rfl rfl w5.heap.size 19 (.bool false) (.bool bf) (cE++(cZ++([.slice AG rs.length cG]++(Z46++[.bool false])))) [] rfl rfl (E.1.box 0 rfl) zq6 zq64 zq13 rfl rfl ?_;intro W10_ hp hn;replace E:=E.1.put2 0 hp hn zq7;clear hp hn)|((with_reducible refine zd (N:=18) rfl ?_);refine zf rfl 67 _ rfl w5.heap.size 0 [] c0 [] _ rfl (E.1.box 0 rfl) (zq62 E0.1) (rfl) Tryz.underlying67 rfl (zq24 L1.1) ?_)|((with_reducible refine zm (t:=67) (p:=6) rfl ?_);refine zn rfl 67 _ _ rfl rfl (w.heap.size+1+1+1) 0 c0 [] Z67 [] rfl rfl (E.1.box 3 rfl) zq6 (rfl) (zq40 L1.1) (zq24 L1.1) O0.1 ?_;intro W12_ hp hn;replace E:=E.1.put2 3 hp hn zq7;clear hp hn))
 have BX:=zz (show _=some (Obj.cells (c0:List Value).toArray 67 (0,0)) from by first|exact (E.1.box 3 rfl)|simpa only [aA,aN,aL] using (E.1.box 3 rfl))
 refine bodyPost_ret (zya rfl _ _ (w.heap.size+1+1+1) 67 _ _ _ rfl BX.1 Tryz.underlying67 rfl (zq122 L1.1)) rfl ?_
 exact ⟨_,rfl,(zq42 E0.1),E.1.below⟩
def implStop_t_T3:Bool×List (List Nat×List Nat):=(true,[([],[]),([],[]),([1],[1]),([2],[2]),([3],[3]),([4],[4]),([],[]),([6],[6]),([7,5],[7]),([0,5,8,8],[0,5,8]),([9,9,0,1,2,3,4,5,6,7,8,9],[9]),([10,0,1,2,3,4,5,6,7,8,9,10],[])])
def implStop_t_B3:List Nat:=[0,0,2,6,14,30,0,64,254,511,1023,2047]
theorem implStop_t_ok3_0:regT (zFa Tryz.f69 3) implStop_t_T3 implStop_t_B3 [] (.t 0 (.p 1 (.p 2 (.p 3 (.t 4 (.p 6 (.t 7 (.e 5 (.e 8 (.e 9 (.e 10 (.p 11 .d))))))))))))=true:=zq13
theorem implStop_t (k:Nat) (a0:List ByteArray) (a1:List S110) (x:S40) (rs:List S135) (y:S40) (l0:List ByteArray) (l1:List S110) (l2:Int) (l3 l4 l5:List Int) (n:Int) (bf:Bool) (e0:List ByteArray) (e1:List S110) {cs:List Value} (w:World) (h:kStore.K w ((a0,a1),x,rs,(y,(l0,l1,l2,l3,l4,l5),n),true,bf) cs) (f1:impl_cloneDisk.f a0 a1=some (a0,a1)) (f2:impl_cloneMeta.f k x.f0 x.f1 x.f2 x.f3=some (x.f0,x.f1,x.f2,x.f3)) (f3:∀r∈rs,impl_cloneMeta.f k r.f1.f0 r.f1.f1 r.f1.f2 r.f1.f3=some (r.f1.f0,r.f1.f1,r.f1.f2,r.f1.f3)) (f4:impl_cloneMeta.f k y.f0 y.f1 y.f2 y.f3=some (y.f0,y.f1,y.f2,y.f3)) (f5:((l0.length≤2000000∧l1.length≤2000000)∧l3.length≤2000000∧l4.length≤2000000∧l5.length≤2000000)) (hl:rs.length≤2000000) (f6:impl_SyncDisk.f k l0 l1=some (e0,e1)):
  Calls Tryz.prog 69 #[.agg cs.toArray] w fun e w'=>∃ds:List Value,e= .returned (.tuple #[.agg ds.toArray,.int .i64 0])∧kStore.M w' w.heap.size (Fr w w') ((e0,e1),x,rs,(⟨0,0,0,[]⟩,([],[],0,[],[],[]),0),false,false) ds∧Below w.heap.size w w':=by
 have KS0:=h
 obtain ⟨cD,_,rfl,hD,cM,_,rfl,hM,cR,_,rfl,hR,cT,_,rfl,hT,cB,cF,rfl,hW,hF⟩:=h
 obtain rfl:cB=[.bool true]:=hW
 obtain rfl:cF=[.bool bf]:=hF
 have hR2:=hR
 obtain ⟨AR,ccR,rfl,mR,rR⟩:=hR
 obtain ⟨cM2,_,rfl,hM2,cW_,cI,rfl,hW_,hI⟩:=hT
 obtain rfl:cI=[.int .i64 n]:=hI
 obtain ⟨u0,_,rfl,hU0,u1,cW2,rfl,hU1,hW2⟩:=hW_
 have hV0:=hU0
 have hV1:=hU1
 obtain ⟨B0,d0,rfl,-,-⟩:=hU0
 obtain ⟨B1,d1,rfl,-,-⟩:=hU1
 obtain ⟨cs,hcs⟩:∃cs,cs=cD++(cM++([.slice AR rs.length ccR]++(cM2++([.slice B0 l0.length d0]++([.slice B1 l1.length d1]++(cW2++([.int .i64 n]++([.bool true]++[.bool bf])))))))):=⟨_,rfl⟩
 simp only [List.append_assoc] at KS0 ⊢;rw [←hcs] at KS0 ⊢
 have Ecs:=zz hcs
 have KS:=zz KS0
 have KM:=zz (show k40.K w x cM from hM)
 have KW0:=zz (show (Own.srow 9 Kd.string).K w l0 [.slice B0 l0.length d0] from hV0);have KW1:=zz (show (Own.srow 110 k110).K w l1 [.slice B1 l1.length d1] from hV1)
 have LM2:=zz (show cM2.length=4 from k40.K_len hM2);have LW2:=zz (show cW2.length=4 from Kd.K_len _ hW2)
 have LD:=zz (show cD.length=2 from kDisk.K_len hD)
 have LM:=zz (show cM.length=4 from k40.K_len hM)
 have Lcs:=zz (show cs.length=20 from kStore.K_len KS0)
 have F1:=zz f1
 have F2:=zz f2
 have F3:=zz f3
 have F4:=zz f4
 have F5:=zz f5
 have FL:=zz hl
 have F6:=zz f6
 clear KS0 hD hM hR2 mR rR hcs f1 f2 f3 f4 f5 hl f6 hM2 hV0 hV1 hW2
 have O:=zz (z3a w.heap.size)
 have E:=zz (Env.start w)
 go_enter Tryz.func69,Tryz.ntmps69
 go_upto_region 3 with (first|((with_reducible refine zd (N:=5) rfl ?_);replace O:=zz (And.intro E.1.le O.1);replace E:=zz (E.1.alloc cs 67 (g:=w.heap.size) rfl);replace E:=zz (E.1.alloc Z67 67 (g:=(w.heap.size+1)) zq38);refine zy rfl 4 _ rfl w.heap.size 18 (cD++(cM++([.slice AR rs.length ccR]++(cM2++([.slice B0 l0.length d0]++([.slice B1 l1.length d1]++(cW2++[.int .i64 n]))))))) (.bool true) [.bool bf] rfl (E.1.box 1 rfl) zq19 (by simp only [List.length_append,List.length_cons,List.length_nil,LD.1,LM.1,LM2.1,LW2.1]) Tryz.underlying4 rfl ?_))
 replace E:=zz E.1.drew
 refine zfa implStop_t_ok3_0 (S:=fun w'=>w'.heap[w.heap.size]?=some (.cells (cs:List Value).toArray 67 (0,0))∧True) zq13 (fun _ _ _ _ h=>h) ⟨(E.1.box 1 rfl),trivial⟩ (fun hHeld=> ?_)
 generalize hq:World.drew _=w1_ at hHeld ⊢;replace E:=E.1.to hq;clear hq
 refine zB (a':= ?_) rfl rfl zq22 67 _ rfl w.heap.size 0 [] cs [] _ rfl (fun w' hs=>hs.1) zq6 (rfl) Tryz.underlying67 rfl zq59 zq2 ?_
 iterate 3 (refine zM (v:= ?_) (a':= ?_) rfl rfl (Or.inl ⟨zq22,zq12⟩) zq2 ?_)
 refine zB (a':= ?_) rfl rfl zq22 37 _ rfl w.heap.size 11 (cD++(cM++([.slice AR rs.length ccR]++cM2))) [.slice B0 l0.length d0,.slice B1 l1.length d1] (cW2++([.int .i64 n]++([.bool true]++[.bool bf]))) _ rfl (fun w' hs=>hs.1) zq19 (by simp only [List.length_append,List.length_cons,List.length_nil,LD.1,LM.1,LM2.1]) Tryz.underlying37 rfl zq13 zq2 ?_
 (refine zM (v:= ?_) (a':= ?_) rfl rfl (Or.inl ⟨zq22,zq12⟩) zq2 ?_)
 refine zB (a':= ?_) rfl rfl zq22 40 _ rfl w.heap.size 2 cD cM ([.slice AR rs.length ccR]++(cM2++([.slice B0 l0.length d0]++([.slice B1 l1.length d1]++(cW2++([.int .i64 n]++([.bool true]++[.bool bf]))))))) _ rfl (fun w' hs=>hs.1) zq19 (LD.1) Tryz.underlying40 rfl zq89 zq2 ?_
 refine zS rfl (zC rfl Tryz.func43 zq13 rfl #[.agg [.slice B0 l0.length d0,.slice B1 l1.length d1].toArray] zq22 rfl zq14 ?_)
 with_reducible refine (zbc k l0 l1 e0 e1 _ (zsa (E.1.K KW0.1) (E.1.K KW1.1)) F6.1).mono ?_
 rintro e w5_ ⟨d2,rfl,M0,hb⟩
 have q:=E.1.made4 O.1 2 rfl M0 hb;clear O E M0 hb;obtain ⟨n0,m8_,Ld6_,Od6_,O,E⟩:=q
 refine ⟨_,rfl,⟨(E.1.box 2 rfl),trivial⟩,(fun hHeld=> ?_)⟩
 refine zw (a':= ?_) zq2 ?_
 refine zS rfl (zC rfl Tryz.func44 zq13 rfl #[.agg cM.toArray] zq22 rfl zq14 ?_)
 with_reducible refine (zdb k x x _ (E.1.K KM.1) F2.1).mono ?_
 rintro e w9_ ⟨d3,rfl,M1,hb⟩
 have q:=E.1.made4 O.1 4 rfl M1 hb;clear O E M1 hb;obtain ⟨n11_,m12_,Ld10_,Od10_,O,E⟩:=q
 refine ⟨_,rfl,⟨(E.1.box 3 rfl),trivial⟩,(fun hHeld=> ?_)⟩
 refine zw (a':= ?_) zq2 ?_
 refine zS rfl (zC rfl Tryz.func70 zq13 rfl #[.agg cs.toArray,.agg d2.toArray,.agg d3.toArray] zq22 rfl zq14 ?_)
 with_reducible refine (stopped_o k a0 a1 x rs y l0 l1 l2 l3 l4 l5 n true bf n0 _ (E.1.K KS.1) (E.1.made 1 rfl) (E.1.made 0 rfl) (by have e:=E.1.below.size;exact e) zq67 F1.1 F2.1 F3.1 F4.1 F5.1 FL.1).mono ?_
 rintro e w13_ ⟨d4,rfl,M2,hb⟩
 have L0:=zz (show d4.length=20 from Kd.K_len _ (Kd.K_of_M _ M2));have Q0:=zz (zU (Kd.K_of_M _ M2))
 obtain ⟨m15_,hT,hE⟩:=E.1.hull_ M2 hb;replace O:=zz (And.intro hT O.1);replace E:=zz hE;clear hT hE M2 hb
 refine ⟨_,rfl,⟨(E.1.box 4 rfl),trivial⟩,(fun hHeld=> ?_)⟩
 refine zw (a':= ?_) zq2 ?_
 refine zS rfl (zA rfl zq22 67 _ _ rfl (w.heap.size+1) 0 d4 [] Z67 [] rfl rfl (E.1.box 3 rfl) zq6 (rfl) (zq40 L0.1) (zq24 L0.1) Q0.1 (fun W16_ hp hn=> ?_))
 replace E:=E.1.put2 3 hp hn zq7;clear hp hn
 refine ⟨⟨(E.1.box 4 rfl),trivial⟩,(fun hHeld=> ?_)⟩
 (refine zM (v:= ?_) (a':= ?_) rfl rfl (Or.inl ⟨zq22,zq12⟩) zq2 ?_)
 refine zX ?_
 clear hHeld
 go_wp2_with fail
 have BX:=zz (show _=some (Obj.cells (d4:List Value).toArray 67 (0,0)) from by first|exact (E.1.box 3 rfl)|simpa only [aA,aN,aL] using (E.1.box 3 rfl))
 refine bodyPost_ret (zG (rs:=[.cell 2 67,.tmp 3]) rfl zq38 (.cell (w.heap.size+1) 67 _ _ _ rfl BX.1 Tryz.underlying67 rfl (by rw [List.size_toArray,show (d4:List Value).length=20 from L0.1];kernel_rfl) (.tmp .nil))) rfl ?_
 exact ⟨_,rfl,(zGb (d:=kStore) (E.1.made 0 rfl) (z3a _)),E.1.below⟩
def specStop_t_T3:Bool×List (List Nat×List Nat):=(true,[([],[]),([],[]),([1],[1]),([2],[2]),([3],[3]),([4],[4]),([],[]),([6],[6]),([7,5],[7]),([0,5,8,8],[0,5,8]),([9,9,0,1,2,3,4,5,6,7,8,9],[9]),([10,0,1,2,3,4,5,6,7,8,9,10],[])])
def specStop_t_B3:List Nat:=[0,0,2,6,14,30,0,64,254,511,1023,2047]
theorem specStop_t_ok3_0:regT (zFa Tryz.f64 3) specStop_t_T3 specStop_t_B3 [] (.t 0 (.p 1 (.p 2 (.p 3 (.t 4 (.p 6 (.t 7 (.e 5 (.e 8 (.e 9 (.e 10 (.p 11 .d))))))))))))=true:=zq13
theorem specStop_t (k:Nat) (a0:List ByteArray) (a1:List S110) (x:S40) (rs:List S135) (y:S40) (l0:List ByteArray) (l1:List S110) (l2:Int) (l3 l4 l5:List Int) (n:Int) (bf:Bool) (e0:List ByteArray) (e1:List S110) {cs:List Value} (w:World) (h:kStore.K w ((a0,a1),x,rs,(y,(l0,l1,l2,l3,l4,l5),n),true,bf) cs) (f1:a0.length≤2000000∧a1.length≤2000000) (f2:zua x) (f3:∀r∈rs,zua r.f1) (f4:zua y) (f5:((l0.length≤2000000∧l1.length≤2000000)∧l3.length≤2000000∧l4.length≤2000000∧l5.length≤2000000)) (hl:rs.length≤2000000) (f6:spec_SyncDisk.f k l0 l1=some (e0,e1)):
  Calls Tryz.prog 64 #[.agg cs.toArray] w fun e w'=>∃ds:List Value,e= .returned (.tuple #[.agg ds.toArray,.int .i64 0])∧kStore.M w' w.heap.size (Fr w w') ((e0,e1),x,rs,(⟨0,0,0,[]⟩,([],[],0,[],[],[]),0),false,false) ds∧Below w.heap.size w w':=by
 have KS0:=h
 obtain ⟨cD,_,rfl,hD,cM,_,rfl,hM,cR,_,rfl,hR,cT,_,rfl,hT,cB,cF,rfl,hW,hF⟩:=h
 obtain rfl:cB=[.bool true]:=hW
 obtain rfl:cF=[.bool bf]:=hF
 have hR2:=hR
 obtain ⟨AR,ccR,rfl,mR,rR⟩:=hR
 obtain ⟨cM2,_,rfl,hM2,cW_,cI,rfl,hW_,hI⟩:=hT
 obtain rfl:cI=[.int .i64 n]:=hI
 obtain ⟨u0,_,rfl,hU0,u1,cW2,rfl,hU1,hW2⟩:=hW_
 have hV0:=hU0
 have hV1:=hU1
 obtain ⟨B0,d0,rfl,-,-⟩:=hU0
 obtain ⟨B1,d1,rfl,-,-⟩:=hU1
 obtain ⟨cs,hcs⟩:∃cs,cs=cD++(cM++([.slice AR rs.length ccR]++(cM2++([.slice B0 l0.length d0]++([.slice B1 l1.length d1]++(cW2++([.int .i64 n]++([.bool true]++[.bool bf])))))))):=⟨_,rfl⟩
 simp only [List.append_assoc] at KS0 ⊢;rw [←hcs] at KS0 ⊢
 have Ecs:=zz hcs
 have KS:=zz KS0
 have KM:=zz (show k40.K w x cM from hM)
 have KW0:=zz (show (Own.srow 9 Kd.string).K w l0 [.slice B0 l0.length d0] from hV0);have KW1:=zz (show (Own.srow 110 k110).K w l1 [.slice B1 l1.length d1] from hV1)
 have LM2:=zz (show cM2.length=4 from k40.K_len hM2);have LW2:=zz (show cW2.length=4 from Kd.K_len _ hW2)
 have LD:=zz (show cD.length=2 from kDisk.K_len hD)
 have LM:=zz (show cM.length=4 from k40.K_len hM)
 have Lcs:=zz (show cs.length=20 from kStore.K_len KS0)
 have F1:=zz f1
 have F2:=zz f2
 have F3:=zz f3
 have F4:=zz f4
 have F5:=zz f5
 have FL:=zz hl
 have F6:=zz f6
 clear KS0 hD hM hR2 mR rR hcs f1 f2 f3 f4 f5 hl f6 hM2 hV0 hV1 hW2
 have O:=zz (z3a w.heap.size)
 have E:=zz (Env.start w)
 go_enter Tryz.func64,Tryz.ntmps64
 go_upto_region 3 with (first|((with_reducible refine zd (N:=5) rfl ?_);replace O:=zz (And.intro E.1.le O.1);replace E:=zz (E.1.alloc cs 67 (g:=w.heap.size) rfl);replace E:=zz (E.1.alloc Z67 67 (g:=(w.heap.size+1)) zq38);refine zy rfl 4 _ rfl w.heap.size 18 (cD++(cM++([.slice AR rs.length ccR]++(cM2++([.slice B0 l0.length d0]++([.slice B1 l1.length d1]++(cW2++[.int .i64 n]))))))) (.bool true) [.bool bf] rfl (E.1.box 1 rfl) zq19 (by simp only [List.length_append,List.length_cons,List.length_nil,LD.1,LM.1,LM2.1,LW2.1]) Tryz.underlying4 rfl ?_))
 replace E:=zz E.1.drew
 refine zfa specStop_t_ok3_0 (S:=fun w'=>w'.heap[w.heap.size]?=some (.cells (cs:List Value).toArray 67 (0,0))∧True) zq13 (fun _ _ _ _ h=>h) ⟨(E.1.box 1 rfl),trivial⟩ (fun hHeld=> ?_)
 generalize hq:World.drew _=w1_ at hHeld ⊢;replace E:=E.1.to hq;clear hq
 refine zB (a':= ?_) rfl rfl zq22 67 _ rfl w.heap.size 0 [] cs [] _ rfl (fun w' hs=>hs.1) zq6 (rfl) Tryz.underlying67 rfl zq59 zq2 ?_
 iterate 3 (refine zM (v:= ?_) (a':= ?_) rfl rfl (Or.inl ⟨zq22,zq12⟩) zq2 ?_)
 refine zB (a':= ?_) rfl rfl zq22 37 _ rfl w.heap.size 11 (cD++(cM++([.slice AR rs.length ccR]++cM2))) [.slice B0 l0.length d0,.slice B1 l1.length d1] (cW2++([.int .i64 n]++([.bool true]++[.bool bf]))) _ rfl (fun w' hs=>hs.1) zq19 (by simp only [List.length_append,List.length_cons,List.length_nil,LD.1,LM.1,LM2.1]) Tryz.underlying37 rfl zq13 zq2 ?_
 (refine zM (v:= ?_) (a':= ?_) rfl rfl (Or.inl ⟨zq22,zq12⟩) zq2 ?_)
 refine zB (a':= ?_) rfl rfl zq22 40 _ rfl w.heap.size 2 cD cM ([.slice AR rs.length ccR]++(cM2++([.slice B0 l0.length d0]++([.slice B1 l1.length d1]++(cW2++([.int .i64 n]++([.bool true]++[.bool bf]))))))) _ rfl (fun w' hs=>hs.1) zq19 (LD.1) Tryz.underlying40 rfl zq89 zq2 ?_
 refine zS rfl (zC rfl Tryz.func33 zq13 rfl #[.agg [.slice B0 l0.length d0,.slice B1 l1.length d1].toArray] zq22 rfl zq14 ?_)
 with_reducible refine (zqb k l0 l1 e0 e1 _ (zsa (E.1.K KW0.1) (E.1.K KW1.1)) F6.1).mono ?_
 rintro e w5_ ⟨d2,rfl,M0,hb⟩
 have q:=E.1.made4 O.1 2 rfl M0 hb;clear O E M0 hb;obtain ⟨n0,m8_,Ld6_,Od6_,O,E⟩:=q
 refine ⟨_,rfl,⟨(E.1.box 2 rfl),trivial⟩,(fun hHeld=> ?_)⟩
 refine zw (a':= ?_) zq2 ?_
 refine zS rfl (zC rfl Tryz.func34 zq13 rfl #[.agg cM.toArray] zq22 rfl zq14 ?_)
 with_reducible refine (zkb x x _ (E.1.K KM.1) ⟨rfl,F2.1⟩).mono ?_
 rintro e w9_ ⟨d3,rfl,M1,hb⟩
 have q:=E.1.made4 O.1 4 rfl M1 hb;clear O E M1 hb;obtain ⟨n11_,m12_,Ld10_,Od10_,O,E⟩:=q
 refine ⟨_,rfl,⟨(E.1.box 3 rfl),trivial⟩,(fun hHeld=> ?_)⟩
 refine zw (a':= ?_) zq2 ?_
 refine zS rfl (zC rfl Tryz.func65 zq13 rfl #[.agg cs.toArray,.agg d2.toArray,.agg d3.toArray] zq22 rfl zq14 ?_)
 with_reducible refine (l12Rest_o a0 a1 x rs y l0 l1 l2 l3 l4 l5 n true bf n0 _ (E.1.K KS.1) (E.1.made 1 rfl) (E.1.made 0 rfl) (by have e:=E.1.below.size;exact e) zq67 F1.1 F2.1 F3.1 F4.1 F5.1 FL.1).mono ?_
 rintro e w13_ ⟨d4,rfl,M2,hb⟩
 have L0:=zz (show d4.length=20 from Kd.K_len _ (Kd.K_of_M _ M2));have Q0:=zz (zU (Kd.K_of_M _ M2))
 obtain ⟨m15_,hT,hE⟩:=E.1.hull_ M2 hb;replace O:=zz (And.intro hT O.1);replace E:=zz hE;clear hT hE M2 hb
 refine ⟨_,rfl,⟨(E.1.box 4 rfl),trivial⟩,(fun hHeld=> ?_)⟩
 refine zw (a':= ?_) zq2 ?_
 refine zS rfl (zA rfl zq22 67 _ _ rfl (w.heap.size+1) 0 d4 [] Z67 [] rfl rfl (E.1.box 3 rfl) zq6 (rfl) (zq40 L0.1) (zq24 L0.1) Q0.1 (fun W16_ hp hn=> ?_))
 replace E:=E.1.put2 3 hp hn zq7;clear hp hn
 refine ⟨⟨(E.1.box 4 rfl),trivial⟩,(fun hHeld=> ?_)⟩
 (refine zM (v:= ?_) (a':= ?_) rfl rfl (Or.inl ⟨zq22,zq12⟩) zq2 ?_)
 refine zX ?_
 clear hHeld
 go_wp2_with fail
 have BX:=zz (show _=some (Obj.cells (d4:List Value).toArray 67 (0,0)) from by first|exact (E.1.box 3 rfl)|simpa only [aA,aN,aL] using (E.1.box 3 rfl))
 refine bodyPost_ret (zG (rs:=[.cell 2 67,.tmp 3]) rfl zq38 (.cell (w.heap.size+1) 67 _ _ _ rfl BX.1 Tryz.underlying67 rfl (by rw [List.size_toArray,show (d4:List Value).length=20 from L0.1];kernel_rfl) (.tmp .nil))) rfl ?_
 exact ⟨_,rfl,(zGb (d:=kStore) (E.1.made 0 rfl) (z3a _)),E.1.below⟩
theorem implStop_f (k:Nat) (a0:List ByteArray) (a1:List S110) (x:S40) (rs:List S135) (y:S40) (l0:List ByteArray) (l1:List S110) (l2:Int) (l3 l4 l5:List Int) (n:Int) (bf:Bool) {cs:List Value} (w:World) (h:kStore.K w ((a0,a1),x,rs,(y,(l0,l1,l2,l3,l4,l5),n),false,bf) cs) (f1:impl_cloneDisk.f a0 a1=some (a0,a1)) (f2:impl_cloneMeta.f k x.f0 x.f1 x.f2 x.f3=some (x.f0,x.f1,x.f2,x.f3)) (f3:∀r∈rs,impl_cloneMeta.f k r.f1.f0 r.f1.f1 r.f1.f2 r.f1.f3=some (r.f1.f0,r.f1.f1,r.f1.f2,r.f1.f3)) (f4:impl_cloneMeta.f k y.f0 y.f1 y.f2 y.f3=some (y.f0,y.f1,y.f2,y.f3)) (f5:((l0.length≤2000000∧l1.length≤2000000)∧l3.length≤2000000∧l4.length≤2000000∧l5.length≤2000000)) (hl:rs.length≤2000000):
  Calls Tryz.prog 69 #[.agg cs.toArray] w fun e w'=>∃ds:List Value,e= .returned (.tuple #[.agg ds.toArray,.int .i64 2])∧kStore.M w' w.heap.size (Fr w w') ((a0,a1),x,rs,(y,(l0,l1,l2,l3,l4,l5),n),false,bf) ds∧Below w.heap.size w w':=by
 have KS0:=h
 obtain ⟨cD,_,rfl,hD,cM,_,rfl,hM,cR,_,rfl,hR,cT,_,rfl,hT,cB,cF,rfl,hW,hF⟩:=h
 obtain rfl:cB=[.bool false]:=hW
 obtain rfl:cF=[.bool bf]:=hF
 have hR2:=hR
 obtain ⟨AR,ccR,rfl,mR,rR⟩:=hR
 obtain ⟨cs,hcs⟩:∃cs,cs=cD++(cM++([.slice AR rs.length ccR]++(cT++([.bool false]++[.bool bf])))):=⟨_,rfl⟩
 rw [←hcs] at KS0 ⊢
 have Ecs:=zz hcs
 have KS:=zz KS0
 have LD:=zz (show cD.length=2 from kDisk.K_len hD)
 have LM:=zz (show cM.length=4 from k40.K_len hM)
 have LT:=zz (show cT.length=11 from kTxn.K_len hT)
 have Lcs:=zz (show cs.length=20 from kStore.K_len KS0)
 have F1:=zz f1
 have F2:=zz f2
 have F3:=zz f3
 have F4:=zz f4
 have F5:=zz f5
 have FL:=zz hl
 clear KS0 hD hM hT hR2 mR rR hcs f1 f2 f3 f4 f5 hl
 have O:=zz (z3a w.heap.size)
 have E:=zz (Env.start w)
 go_enter Tryz.func69,Tryz.ntmps69
 go_wp2_with (first|((with_reducible refine zd (N:=5) rfl ?_);replace O:=zz (And.intro E.1.le O.1);replace E:=zz (E.1.alloc cs 67 (g:=w.heap.size) rfl);replace E:=zz (E.1.alloc Z67 67 (g:=(w.heap.size+1)) zq38);refine zy rfl 4 _ rfl w.heap.size 18 (cD++(cM++([.slice AR rs.length ccR]++cT))) (.bool false) [.bool bf] rfl (E.1.box 1 rfl) zq19 zq41 Tryz.underlying4 rfl ?_)|((with_reducible refine zd (N:=7) rfl ?_);refine zf rfl 67 _ rfl w.heap.size 0 [] cs [] _ rfl (E.1.box 1 rfl) zq6 (rfl) Tryz.underlying67 rfl zq59 ?_))
 ((with_reducible refine (cloneStore_o k a0 a1 x rs y l0 l1 l2 l3 l4 l5 n false bf _ (E.1.K KS.1) F1.1 F2.1 F3.1 F4.1 F5.1 FL.1).mono ?_);rintro e w1_ ⟨d0,rfl,M0,hb⟩)
 have L0:=zz (show d0.length=20 from Kd.K_len _ (Kd.K_of_M _ M0));have Q0:=zz (zU (Kd.K_of_M _ M0))
 obtain ⟨n3_,m4_,hT,hE⟩:=E.1.made_ M0 hb;replace O:=zz (And.intro hT O.1);replace E:=zz hE;clear hT hE M0 hb
 go_wp2_with (first|((with_reducible refine zm (t:=67) (p:=2) rfl ?_);refine zn rfl 67 _ _ rfl rfl (w.heap.size+1) 0 d0 [] Z67 [] rfl rfl (E.1.box 1 rfl) zq6 (rfl) (zq40 L0.1) (zq24 L0.1) Q0.1 ?_;intro W5_ hp hn;replace E:=E.1.put2 1 hp hn zq7;clear hp hn))
 have BX:=zz (show _=some (Obj.cells (d0:List Value).toArray 67 (0,0)) from by first|exact (E.1.box 1 rfl)|simpa only [aA,aN,aL] using (E.1.box 1 rfl))
 refine bodyPost_ret (zG (rs:=[.cell 2 67,.tmp 3]) rfl zq38 (.cell (w.heap.size+1) 67 _ _ _ rfl BX.1 Tryz.underlying67 rfl (zq109 L0.1) (.tmp .nil))) rfl ?_
 exact ⟨_,rfl,(zGb (d:=kStore) (E.1.made 0 rfl) (z3a _)),E.1.below⟩
theorem specStop_f (a0:List ByteArray) (a1:List S110) (x:S40) (rs:List S135) (y:S40) (l0:List ByteArray) (l1:List S110) (l2:Int) (l3 l4 l5:List Int) (n:Int) (bf:Bool) {cs:List Value} (w:World) (h:kStore.K w ((a0,a1),x,rs,(y,(l0,l1,l2,l3,l4,l5),n),false,bf) cs) (f1:a0.length≤2000000∧a1.length≤2000000) (f2:zua x) (f3:∀r∈rs,zua r.f1) (f4:zua y) (f5:((l0.length≤2000000∧l1.length≤2000000)∧l3.length≤2000000∧l4.length≤2000000∧l5.length≤2000000)) (hl:rs.length≤2000000):
  Calls Tryz.prog 64 #[.agg cs.toArray] w fun e w'=>∃ds:List Value,e= .returned (.tuple #[.agg ds.toArray,.int .i64 2])∧kStore.M w' w.heap.size (Fr w w') ((a0,a1),x,rs,(y,(l0,l1,l2,l3,l4,l5),n),false,bf) ds∧Below w.heap.size w w':=by
 have KS0:=h
 obtain ⟨cD,_,rfl,hD,cM,_,rfl,hM,cR,_,rfl,hR,cT,_,rfl,hT,cB,cF,rfl,hW,hF⟩:=h
 obtain rfl:cB=[.bool false]:=hW
 obtain rfl:cF=[.bool bf]:=hF
 have hR2:=hR
 obtain ⟨AR,ccR,rfl,mR,rR⟩:=hR
 obtain ⟨cs,hcs⟩:∃cs,cs=cD++(cM++([.slice AR rs.length ccR]++(cT++([.bool false]++[.bool bf])))):=⟨_,rfl⟩
 rw [←hcs] at KS0 ⊢
 have Ecs:=zz hcs
 have KS:=zz KS0
 have LD:=zz (show cD.length=2 from kDisk.K_len hD)
 have LM:=zz (show cM.length=4 from k40.K_len hM)
 have LT:=zz (show cT.length=11 from kTxn.K_len hT)
 have Lcs:=zz (show cs.length=20 from kStore.K_len KS0)
 have F1:=zz f1
 have F2:=zz f2
 have F3:=zz f3
 have F4:=zz f4
 have F5:=zz f5
 have FL:=zz hl
 clear KS0 hD hM hT hR2 mR rR hcs f1 f2 f3 f4 f5 hl
 have O:=zz (z3a w.heap.size)
 have E:=zz (Env.start w)
 go_enter Tryz.func64,Tryz.ntmps64
 go_wp2_with (first|((with_reducible refine zd (N:=5) rfl ?_);replace O:=zz (And.intro E.1.le O.1);replace E:=zz (E.1.alloc cs 67 (g:=w.heap.size) rfl);replace E:=zz (E.1.alloc Z67 67 (g:=(w.heap.size+1)) zq38);refine zy rfl 4 _ rfl w.heap.size 18 (cD++(cM++([.slice AR rs.length ccR]++cT))) (.bool false) [.bool bf] rfl (E.1.box 1 rfl) zq19 zq41 Tryz.underlying4 rfl ?_)|((with_reducible refine zd (N:=7) rfl ?_);refine zf rfl 67 _ rfl w.heap.size 0 [] cs [] _ rfl (E.1.box 1 rfl) zq6 (rfl) Tryz.underlying67 rfl zq59 ?_))
 ((with_reducible refine (l12Copy_o a0 a1 x rs y l0 l1 l2 l3 l4 l5 n false bf _ (E.1.K KS.1) F1.1 F2.1 F3.1 F4.1 F5.1 FL.1).mono ?_);rintro e w1_ ⟨d0,rfl,M0,hb⟩)
 have L0:=zz (show d0.length=20 from Kd.K_len _ (Kd.K_of_M _ M0));have Q0:=zz (zU (Kd.K_of_M _ M0))
 obtain ⟨n3_,m4_,hT,hE⟩:=E.1.made_ M0 hb;replace O:=zz (And.intro hT O.1);replace E:=zz hE;clear hT hE M0 hb
 go_wp2_with (first|((with_reducible refine zm (t:=67) (p:=2) rfl ?_);refine zn rfl 67 _ _ rfl rfl (w.heap.size+1) 0 d0 [] Z67 [] rfl rfl (E.1.box 1 rfl) zq6 (rfl) (zq40 L0.1) (zq24 L0.1) Q0.1 ?_;intro W5_ hp hn;replace E:=E.1.put2 1 hp hn zq7;clear hp hn))
 have BX:=zz (show _=some (Obj.cells (d0:List Value).toArray 67 (0,0)) from by first|exact (E.1.box 1 rfl)|simpa only [aA,aN,aL] using (E.1.box 1 rfl))
 refine bodyPost_ret (zG (rs:=[.cell 2 67,.tmp 3]) rfl zq38 (.cell (w.heap.size+1) 67 _ _ _ rfl BX.1 Tryz.underlying67 rfl (zq109 L0.1) (.tmp .nil))) rfl ?_
 exact ⟨_,rfl,(zGb (d:=kStore) (E.1.made 0 rfl) (z3a _)),E.1.below⟩
end Go.Proofs.YtonhdiemjgdcnaaGreat.PFnExactGivePage
