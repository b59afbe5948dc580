import Derived.Test.YtonhdiemjgdcnaaGreatCW13
import Derived.Shelf.Sort.Plain
import Derived.Ground.Names2Prog
import Derived.Shelf.Slices.In.SortNone
import Derived.Sort.OwnSortedInts
set_option maxHeartbeats 64000000
set_option maxRecDepth 100000
set_option linter.unusedVariables false
set_option linter.unusedSimpArgs false
namespace Go.Proofs
theorem zq39{P Q0 Q1 Q2:Prop}(q0:Q0)(q1:Q1)(q2:Q2)(h:Q0→Q1→Q2→P:=by intro q0 q1 q2;(with_reducible repeat (first|apply Kd.R_alloc|apply Kd.R_drewN|apply Kd.R_drew));exact Kd.R_mono (Kd.R_far (p:=⟨g1,1,none⟩) (Kd.R_far (p:=⟨g1,0,none⟩) (Kd.R_far (p:=⟨g2,1,none⟩) (Kd.R_types (Kd.R_types q0 q1 (by decide)) q2 (by decide)) (fun _ hk=>hk.1.2) (.slice A11 y0.length c17)) (fun _ hk=>hk.2) (.slice A9 t2.length c15)) (fun _ hk=>hk.2) (.slice A11 y0.length c17)) (fun _ hk=>trivial)):P:=h q0 q1 q2
theorem zq48{P Q0 Q1:Prop}(q0:Q0)(q1:Q1)(h:Q0→Q1→P:=by intro q0 q1;(with_reducible repeat (first|apply Kd.R_alloc|apply Kd.R_drewN|apply Kd.R_drew));exact (Kd.R_mono (Kd.R_far (p:=⟨g2,1,none⟩) (Kd.R_far (p:=⟨g2,0,none⟩) (Kd.R_types q0 q1 (by decide)) (fun _ hk=>hk.2) (.slice A9 t2.length c15)) (fun _ hk=>hk.2) (.slice A10 t3.length c16)) (fun _ h_=>h_.1))):P:=h q0 q1
theorem zq50{P Q0 Q1:Prop}(q0:Q0)(q1:Q1)(h:Q0→Q1→P:=by intro q0 q1;(with_reducible repeat (first|refine zk ?_ _|refine zl ?_|refine zh ?_ _));refine zW (cs:= #[.slice A9 t2.length c15,.slice none 0 0]) ?_ 1 _ rfl;(with_reducible repeat (first|refine zk ?_ _|refine zl ?_|refine zh ?_ _));refine zW (cs:= #[.slice none 0 0,.slice none 0 0]) ?_ 0 _ rfl;(with_reducible repeat (first|refine zk ?_ _|refine zl ?_|refine zh ?_ _));refine zka ?_ q0 _;(with_reducible repeat (first|refine zk ?_ _|refine zl ?_|refine zh ?_ _));exact q1):P:=h q0 q1
theorem zq60{P Q0:Prop}(q0:Q0)(h:Q0→P:=by intro q0;(with_reducible repeat (first|refine zk ?_ _|refine zl ?_|refine zh ?_ _));refine zW (cs:= #[.slice A9 t2.length c15,.slice none 0 0]) ?_ 1 _ rfl;(with_reducible repeat (first|refine zk ?_ _|refine zl ?_|refine zh ?_ _));refine zW (cs:= #[.slice none 0 0,.slice none 0 0]) ?_ 0 _ rfl;(with_reducible repeat (first|refine zk ?_ _|refine zl ?_|refine zh ?_ _));exact q0):P:=h q0
theorem zq124{P Q0:Prop}(q0:Q0)(h:Q0→P:=by intro q0;rw [List.size_toArray,show (d2:List Value).length=2 from q0];kernel_rfl):P:=h q0
theorem zq162{P:Prop}(h:P:=by
 simp only [Option.some.injEq,Prod.mk.injEq] at H
 exact absurd H.2.2 zq31):P:=h
theorem zq178{P:Prop}(h:P:=by
 clear hq
 clear h
 go_wp2_with ((with_reducible refine (impl_seal.calls k s (sl s) _ (HV.1.sI s zq9)).mono ?_);rintro e w2 ⟨rfl,hb⟩;have HB2:=zz hb;clear hb)
 go_ret2
 exact ⟨by first|exact rt2 HT0.1.symm|rfl,ze BA.1.bel HB2.1⟩):P:=h
theorem zq185{P:Prop}(h:P:=by
 refine bodyPost_ret (results_ct rfl _ _ g1 37 #[.slice A9 t2.length c15,.slice A11 y0.length c17] (0,0) _ rfl (zq50 N4.1 B2.1) Tryz.underlying37 rfl zq13) rfl ?_
 exact ⟨_,_,zq16,zq39 O0.1 B4.1 B2.1,zq39 O2.1 B4.1 B2.1,zq11 G0.1 G1.1 G2.1⟩):P:=h
theorem zq203{P:Prop}(h:P:=by
 rw [if_pos c9] at H
 have c9b0:decide (240<(a2.size:Int))=true:=z6 c9
 have c9b1:decide (240<a2.size)=true:=z6 zq9
 clear c9
 exact zq162):P:=h
theorem zq208{P:Prop}(h:P:=by
 rw [if_neg (show ¬(false=true) by decide)] at H
 exact zq162):P:=h
end Go.Proofs
namespace Go.Proofs
open Go.Shelf
def Tryz.lays189_ren:Go.Shelf.Ren:=⟨fun|189=>91|125=>122|257=>121|128=>144|129=>145|294=>135|295=>136|296=>137|297=>138|298=>139|299=>140|216=>141|300=>142|301=>143|328=>150|329=>151|330=>152|331=>153|332=>154|215=>155|343=>157|n=>n,fun|28=>29|3=>3|46=>149|0=>0|51=>143|53=>171|4=>4|183=>162|182=>161|131=>167|5=>5|9=>9|218=>175|222=>179|228=>181|229=>182|n=>n,fun|n=>n⟩
theorem Tryz.lays189:Go.Proofs.Lays.n189 Tryz.prog Tryz.lays189_ren:={
 mixed:=zq13
 f125:=Tryz.func122.trans (congrArg some zq13)
 f128:=Tryz.func144.trans (congrArg some zq13)
 f129:=Tryz.func145.trans (congrArg some zq13)
 f189:=Tryz.func91.trans (congrArg some zq13)
 f215:=Tryz.func155.trans (congrArg some zq13)
 f216:=Tryz.func141.trans (congrArg some zq13)
 f257:=Tryz.func121.trans (congrArg some zq13)
 f294:=Tryz.func135.trans (congrArg some zq13)
 f295:=Tryz.func136.trans (congrArg some zq13)
 f296:=Tryz.func137.trans (congrArg some zq13)
 f297:=Tryz.func138.trans (congrArg some zq13)
 f298:=Tryz.func139.trans (congrArg some zq13)
 f299:=Tryz.func140.trans (congrArg some zq13)
 f300:=Tryz.func142.trans (congrArg some zq13)
 f301:=Tryz.func143.trans (congrArg some zq13)
 f328:=Tryz.func150.trans (congrArg some zq13)
 f329:=Tryz.func151.trans (congrArg some zq13)
 f330:=Tryz.func152.trans (congrArg some zq13)
 f331:=Tryz.func153.trans (congrArg some zq13)
 f332:=Tryz.func154.trans (congrArg some zq13)
 f343:=Tryz.func157.trans (congrArg some zq13)
 t0:=Tryz.underlying0
 a0:=Tryz.isAgg0
 z0:=Tryz.sizeOf0
 v0:=Tryz.zeroValue0
 t3:=Tryz.underlying3
 a3:=Tryz.isAgg3
 z3:=Tryz.sizeOf3
 v3:=Tryz.zeroValue3
 t4:=Tryz.underlying4
 a4:=Tryz.isAgg4
 z4:=Tryz.sizeOf4
 v4:=Tryz.zeroValue4
 t5:=Tryz.underlying5
 a5:=Tryz.isAgg5
 z5:=Tryz.sizeOf5
 v5:=Tryz.zeroValue5
 t9:=Tryz.underlying9
 a9:=Tryz.isAgg9
 z9:=Tryz.sizeOf9
 v9:=Tryz.zeroValue9
 t28:=Tryz.underlying29
 a28:=Tryz.isAgg29
 z28:=Tryz.sizeOf29
 v28:=Tryz.zeroValue29
 t46:=Tryz.underlying149
 a46:=Tryz.isAgg149
 z46:=Tryz.sizeOf149
 v46:=Tryz.zeroValue149
 t51:=Tryz.underlying143
 a51:=Tryz.isAgg143
 z51:=Tryz.sizeOf143
 v51:=Tryz.zeroValue143
 t53:=Tryz.underlying171
 a53:=Tryz.isAgg171
 z53:=Tryz.sizeOf171
 v53:=Tryz.zeroValue171
 t131:=Tryz.underlying167
 a131:=Tryz.isAgg167
 z131:=Tryz.sizeOf167
 v131:=Tryz.zeroValue167
 t182:=Tryz.underlying161
 a182:=Tryz.isAgg161
 z182:=Tryz.sizeOf161
 v182:=Tryz.zeroValue161
 t183:=Tryz.underlying162
 a183:=Tryz.isAgg162
 z183:=Tryz.sizeOf162
 v183:=Tryz.zeroValue162
 t218:=Tryz.underlying175
 a218:=Tryz.isAgg175
 z218:=Tryz.sizeOf175
 v218:=Tryz.zeroValue175
 t222:=Tryz.underlying179
 a222:=Tryz.isAgg179
 z222:=Tryz.sizeOf179
 v222:=Tryz.zeroValue179
 t228:=Tryz.underlying181
 a228:=Tryz.isAgg181
 z228:=Tryz.sizeOf181
 v228:=Tryz.zeroValue181
 t229:=Tryz.underlying182
 a229:=Tryz.isAgg182
 z229:=Tryz.sizeOf182
 v229:=Tryz.zeroValue182}
open Go.Sort Go.RowKit in
theorem Tryz.slices_Sort_int (blk off cap:Nat) (zs:List Int) (w:World) (hH:Holds (Value.int .i64) w blk off zs.toArray) (hblk:blk<w.heap.size) (hsz:zs.length<4611686018427387904):
 Calls Tryz.prog 91 #[.slice (some ⟨blk,off,none⟩) zs.length cap] w fun e w'=>
  e= .returned (.tuple #[])∧∃n os,w'=grow (putRow (Value.int .i64) (Sort.ahead w n) blk off (zs.mergeSort fun x y=>decide (x≤y)).toArray) os:=Any.slices_Sort_int Tryz.lays189 blk off cap zs w hH hblk hsz
open Go.RowKit Go.Sort in
theorem Tryz.slices_Sort_int_none (p:Option Addr) (cap:Nat) (w:World):
 Calls Tryz.prog 91 #[.slice p 0 cap] w fun e w'=>e= .returned (.tuple #[])∧w'=w:=Any.slices_Sort_int_none Tryz.lays189 p cap w
end Go.Proofs
namespace Go.Proofs.YtonhdiemjgdcnaaGreat.PFnExactGivePage
open Go.RowKit Go.Proofs.YtonhdiemjgdcnaaGreatW.PrintWords Go.Proofs.YtonhdiemjgdcnaaGreatW.PrintLast Go.Proofs.YtonhdiemjgdcnaaGreatW.PrintMore
attribute [local go_sem] zma zla zwa zxa zba zca zoa zna
theorem sort_own {W:World} {base:Nat} {A:Option Addr} {c:Nat} {xs:List Int} (h:Kd.R (Kd.int .i64) 3 W base (fun _=>True) (.slice A xs.length c) xs) (hlen:xs.length≤4000000):
  Calls Tryz.prog 91 #[.slice A xs.length c] W fun e W'=>e= .returned (.tuple #[])∧Kd.R (Kd.int .i64) 3 W' base (fun _=>True) (.slice A xs.length c) (srt xs)∧W.grownBy W' (Value.slice A xs.length c).ownBlock:=by
 by_cases hz:xs.length=0
 ·have e0:xs=[]:=List.length_eq_zero_iff.1 hz
  subst e0
  refine (Tryz.slices_Sort_int_none A c W).mono ?_
  rintro e W' ⟨rfl,rfl⟩
  exact ⟨rfl,by rw [show srt ([]:List Int)=[] from by simp [srt]];exact h,World.grownBy.refl _ _⟩
 ·have ho:=Kd.own_of_R h
  rcases ho.2 with ⟨h0,h1⟩|⟨g,cap,cur,hv,hg,hh,hn,hcap,hsz,ht⟩
  ·have:=h1
   simp_all
  ·cases hv
   have hH:=Go.holds_of_blockI (ss:=xs) hh (by simpa [encs] using ht)
   refine (Tryz.slices_Sort_int g 0 c xs W hH (zP hh) zq9).mono ?_
   rintro e W' ⟨rfl,n,os,rfl⟩
   refine ⟨rfl,?_,?_⟩
   ·have ho2:=Go.ownsRow_sortedI (n:=n) (os:=os) (ts:=srt xs) (srt_len xs) hg hh hn hcap hsz
    have:=Kd.R_of_own (enc:=Value.int .i64) (h1:=fun _=>rfl) (ok:=fun _=>True) (xs:=srt xs) (v:= .slice (some ⟨g,0,none⟩) xs.length c) (by rw [srt_len];simpa [encs] using ho2) (fun _ _=>trivial)
    exact this
   ·exact Go.grownBy_sortedI _
def implMetaText.T3:Bool×List (List Nat×List Nat):=(true,[([],[]),([0],[0]),([1],[1]),([],[]),([3],[3]),([4,2],[4]),([2,5],[2,5]),([],[]),([7],[7]),([8,5],[8]),([6,9],[6,9]),([],[]),([11],[11]),([12],[12]),([13,9],[13]),([10,14],[10,14]),([15,14,0,1,2,3,4,5,6,7,8,9,10,11,12,13,14,15],[15])])
def implMetaText.B3:List Nat:=[0,1,3,0,8,31,63,0,128,447,1023,0,2048,6144,15295,32767,65535]
theorem implMetaText.ok3_2:regB (zFa Tryz.f92 3) implMetaText.T3 implMetaText.B3 [] [.p 0,.t 1,.p 3,.t 4,.p 7,.t 8,.p 11,.t 12,.p 13,.e 2,.e 5,.p 6,.e 9,.p 10,.e 14,.p 15,.p 16]=true:=zq13
def implMetaText.T7:Bool×List (List Nat×List Nat):=(true,[([],[]),([],[]),([1],[1]),([2],[2]),([],[]),([4],[4]),([5],[5]),([6,3],[6]),([3,7],[3,7]),([0,8],[0,8]),([9,7,0,1,2,3,4,5,6,7,8,9],[0,9])])
def implMetaText.B7:List Nat:=[0,0,2,6,0,16,48,126,254,511,1023]
theorem implMetaText.ok7_3:regB (zFa Tryz.f92 7) implMetaText.T7 implMetaText.B7 [] [.p 0,.p 1,.t 2,.p 4,.t 5,.p 6,.e 3,.e 7,.p 8,.p 9,.p 10]=true:=zq13
theorem zWa {k:Nat} {vt:Int→ByteArray} {sl:ByteArray→ByteArray} (T:TxF k vt sl) (x:S40) (t:ByteArray) (ok:Bool) {cs:List Value} (w:World) (h:k40.K w x cs) (hm:MTxt vt sl x t ok):
  Calls Tryz.prog 92 #[.agg cs.toArray] w fun e w'=>e= .returned (.tuple #[.string t,.bool ok])∧Below w.heap.size w w':=by
 have hK:=h
 obtain ⟨AF,cF,rfl,mF,rF⟩:=zEa h
 have KR:=zz rF
 have KM:=zz hK
 have HM:=zz hm
 have HV:=zz T
 have bn:=rF.2.1
 have BA:=zz (BoxAt.mk (cs:=[.int .i64 x.f0,.int .i64 x.f1,.int .i64 x.f2,.slice AF x.f3.length cF]) (zqa w (.cells #[.int .i64 x.f0,.int .i64 x.f1,.int .i64 x.f2,.slice AF x.f3.length cF] 40)) (zo (z1a w.heap.size w) (.cells #[.int .i64 x.f0,.int .i64 x.f1,.int .i64 x.f2,.slice AF x.f3.length cF] 40)))
 clear h mF rF hm hK T
 by_cases hh:MOk x
 ·have HO:=zz hh
  have n0:=hh.f0
  have n1:=hh.f1
  have n2:=hh.f2
  have n3:=hh.len
  clear hh
  go_enter Tryz.func92,Tryz.ntmps92
  go_upto_region 3 with (first|((with_reducible refine zd (N:=9) rfl ?_);refine zf rfl 40 _ rfl w.heap.size 0 [] [.int .i64 x.f0,.int .i64 x.f1,.int .i64 x.f2,.slice AF x.f3.length cF] [] _ rfl BA.1.box rfl rfl Tryz.underlying40 rfl zq13 ?_)|((with_reducible refine (implMetaOk_c x true _ (k40.K_below BA.1.bel KM.1) ⟨fun _=>HO.1,fun _=>rfl⟩).mono ?_);rintro e w1 ⟨rfl,hb⟩;have BA1:=zz (BA.1.step hb);clear hb))
  have hp0:w1.cell? ⟨w.heap.size,0,none⟩=some (.int .i64 x.f0):=(zj BA1.1.box 0).trans rfl
  have hp1:w1.cell? ⟨w.heap.size,1,none⟩=some (.int .i64 x.f1):=(zj BA1.1.box 1).trans rfl
  have hp2:w1.cell? ⟨w.heap.size,2,none⟩=some (.int .i64 x.f2):=(zj BA1.1.box 2).trans rfl
  have hp3:w1.cell? ⟨w.heap.size,3,none⟩=some (.slice AF x.f3.length cF):=(zj BA1.1.box 3).trans rfl
  have s0:=HV.1.vz x.f0
  have s1:=HV.1.vz x.f1
  have s2:=HV.1.vz x.f2
  have s3:=HV.1.vz (x.f3.length:Int)
  have za:(9223372036854775807<(vt x.f0).size+(vt x.f1).size)=False:=eq_false zq9
  have zb:(9223372036854775807<(vt x.f0).size+(vt x.f1).size+(vt x.f2).size)=False:=eq_false zq9
  have zc:(9223372036854775807<(vt x.f0).size+(vt x.f1).size+(vt x.f2).size+(vt (x.f3.length:Int)).size)=False:=eq_false zq9
  have HK:=zz (z1a w1.heap.size w1).drew
  refine zMa implMetaText.ok3_2 (S:=fun w'=>w'.cell? ⟨w.heap.size,0,none⟩=some (.int .i64 x.f0)∧w'.cell? ⟨w.heap.size,1,none⟩=some (.int .i64 x.f1)∧w'.cell? ⟨w.heap.size,2,none⟩=some (.int .i64 x.f2)∧w'.cell? ⟨w.heap.size,3,none⟩=some (.slice AF x.f3.length cF)) zq13 (fun _ _ _ _ h=>h) ⟨zi hp0 HK.1,zi hp1 HK.1,zi hp2 HK.1,zi hp3 HK.1⟩ (fun hHeld=> ?_)
  (refine zpa (v:= ?_) (a':= ?_) rfl rfl (Or.inl ⟨zq22,zq12⟩) zq3 ?_)
  (refine zbb (v:= ?_) (a':= ?_) rfl rfl (Or.inl ⟨zq22,zq49⟩) zq3 ?_)
  (refine zpa (v:= ?_) (a':= ?_) rfl rfl (Or.inl ⟨zq22,zq12⟩) zq3 ?_)
  (refine zbb (v:= ?_) (a':= ?_) rfl rfl (Or.inl ⟨zq22,zq49⟩) zq3 ?_)
  (refine zpa (v:= ?_) (a':= ?_) rfl rfl (Or.inl ⟨zq22,zq12⟩) zq3 ?_)
  (refine zbb (v:= ?_) (a':= ?_) rfl rfl (Or.inl ⟨zq22,zq49⟩) zq3 ?_)
  (refine zpa (v:= ?_) (a':= ?_) rfl rfl (Or.inl ⟨zq22,zq12⟩) zq3 ?_)
  (refine zbb (v:= ?_) (a':= ?_) rfl rfl (Or.inl ⟨zq22,zq49⟩) zq3 ?_)
  (refine zpa (v:= ?_) (a':= ?_) rfl rfl (Or.inl ⟨zq22,zq12⟩) zq3 ?_)
  refine zva rfl rfl Tryz.func124 zq13 rfl #[.int .i64 x.f0] zq22 rfl zq14 ?_
  with_reducible refine (varI HV.1 x.f0 n0.1 n0.2 _).mono ?_
  rintro e w2 ⟨rfl,hb⟩
  replace HK:=zz (ze HK.1 hb)
  clear hb
  refine ⟨_,rfl,⟨zi hp0 HK.1,zi hp1 HK.1,zi hp2 HK.1,zi hp3 HK.1⟩,(fun hHeld=> ?_)⟩
  refine zha (a':= ?_) zq3 ?_
  refine zva rfl rfl Tryz.func124 zq13 rfl #[.int .i64 x.f1] zq22 rfl zq14 ?_
  with_reducible refine (varI HV.1 x.f1 n1.1 n1.2 _).mono ?_
  rintro e w2 ⟨rfl,hb⟩
  replace HK:=zz (ze HK.1 hb)
  clear hb
  refine ⟨_,rfl,⟨zi hp0 HK.1,zi hp1 HK.1,zi hp2 HK.1,zi hp3 HK.1⟩,(fun hHeld=> ?_)⟩
  refine zha (a':= ?_) zq3 ?_
  (refine zpa (v:= ?_) (a':= ?_) rfl rfl (Or.inl ⟨zq22,zq12⟩) zq3 ?_)
  refine zva rfl rfl Tryz.func124 zq13 rfl #[.int .i64 x.f2] zq22 rfl zq14 ?_
  with_reducible refine (varI HV.1 x.f2 n2.1 n2.2 _).mono ?_
  rintro e w2 ⟨rfl,hb⟩
  replace HK:=zz (ze HK.1 hb)
  clear hb
  refine ⟨_,rfl,⟨zi hp0 HK.1,zi hp1 HK.1,zi hp2 HK.1,zi hp3 HK.1⟩,(fun hHeld=> ?_)⟩
  refine zha (a':= ?_) zq3 ?_
  (refine zpa (v:= ?_) (a':= ?_) rfl rfl (Or.inl ⟨zq22,zq12⟩) zq3 ?_)
  refine zva rfl rfl Tryz.func124 zq13 rfl #[.int .i64 (x.f3.length:Int)] zq22 rfl zq14 ?_
  with_reducible refine (varI HV.1 (x.f3.length:Int) zq9 zq9 _).mono ?_
  rintro e w2 ⟨rfl,hb⟩
  replace HK:=zz (ze HK.1 hb)
  clear hb
  refine ⟨_,rfl,⟨zi hp0 HK.1,zi hp1 HK.1,zi hp2 HK.1,zi hp3 HK.1⟩,(fun hHeld=> ?_)⟩
  refine zha (a':= ?_) zq3 ?_
  iterate 2 (refine zpa (v:= ?_) (a':= ?_) rfl rfl (Or.inl ⟨zq22,zq12⟩) zq3 ?_)
  refine zZa ?_
  clear hHeld hp0 hp1 hp2 hp3 za zb zc s0 s1 s2 s3
  replace BA1:=zz (BA1.1.step HK.1)
  clear HK
  have hp3:w2.cell? ⟨w.heap.size,3,none⟩=some (.slice AF x.f3.length cF):=(zj BA1.1.box 3).trans rfl
  go_wp2_with fail
  clear hp3
  go_loopg [4,31] (x.f3.length+1) (fun kq v4 v5 w'=>∃(i:Nat),v4= .string (facc vt (mhead vt x) (x.f3.take i))∧v5= .int .i64 (i:Int)∧Z0 (kq+i=x.f3.length+1)∧Z0 (i≤x.f3.length)∧Z0 (BoxAt w w' [.int .i64 x.f0,.int .i64 x.f1,.int .i64 x.f2,.slice AF x.f3.length cF]))
  case atStart=>exact ⟨0,rfl,rfl,⟨zq9⟩,⟨z0b _⟩,BA1⟩
  case round=>
   clear BA BA1
   obtain ⟨i,rfl,rfl,HQ,HI,BA⟩:=hrel
   obtain ⟨s,hs⟩:∃s,s=facc vt (mhead vt x) (x.f3.take i):=⟨_,rfl⟩
   have hsz:s.size≤7000:=zq191
   rw [←hs]
   have HSE:=zz hs
   clear hs
   by_cases hlt:i<x.f3.length
   ·have c1:decide ((i:Int)<(x.f3.length:Int))=true:=z6 zq9
    have c0:decide ((0:Int)≤(i:Int))=true:=z6 zq9
    have c2:((i:Int)<(x.f3.length:Int))=True:=eq_true zq9
    have c3:((0:Int)≤(i:Int))=True:=eq_true zq9
    cases gk with
    |zero=>exact absurd HQ.1 zq9
    |succ k1=>
     obtain ⟨ad,A1,c11,hA,z0,z1,hl4,hC4⟩:=zxb KR.1 (i:Int) zq9 zq9
     subst hA
     obtain ⟨el,hel⟩:∃el,el=zF x.f3 (i:Int):=⟨_,rfl⟩
     have hel2:x.f3[i]?=some el:=zq72
     rw [←hel] at z0 z1 hl4 hC4
     simp only [Int.toNat_natCast] at z0 z1
     replace z0:=zi z0 BA.1.bel
     replace z1:=zi z1 BA.1.bel
     have HE:=zz hel2
     have KE:=zz hC4
     have be:el.f1.length≤9223372036854775807:=hC4.2.1
     have nf:=(HO.1.fr hel2).1
     have nl:=(HO.1.fr hel2).2.1
     have s0:=HV.1.vz el.f0
     have s3:=HV.1.vz (el.f1.length:Int)
     clear hel hel2 hC4 hl4
     have zp:=trivial
     have za:(9223372036854775807<(vt el.f0).size+(vt (el.f1.length:Int)).size)=False:=eq_false zq9
     have zb:(9223372036854775807<s.size+((vt el.f0).size+(vt (el.f1.length:Int)).size))=False:=eq_false zq9
     go_upto_region 7 with (fail)
     obtain ⟨W1,hW1⟩:∃W1,W1=wr.alloc (.cells #[.int .i64 el.f0,.slice A1 el.f1.length c11] 112):=⟨_,rfl⟩
     have BF:=zz (show W1.heap[wr.heap.size]?=some (.cells ([.int .i64 el.f0,.slice A1 el.f1.length c11]:List Value).toArray 112 (0,0)) from by rw [hW1];exact zqa wr _)
     have HB1:=zz (show Below wr.heap.size wr W1 from by rw [hW1];exact zo (z1a _ _) _)
     rw [←hW1]
     obtain ⟨gF,hgF⟩:∃g,g=wr.heap.size:=⟨_,rfl⟩
     rw [←hgF] at BF ⊢
     clear hW1 z0 z1 hgF
     replace BA:=zz (BA.1.step HB1.1)
     clear HB1
     have hf0:W1.cell? ⟨gF,0,none⟩=some (.int .i64 el.f0):=(zj BF.1 0).trans rfl
     have hf1:W1.cell? ⟨gF,1,none⟩=some (.slice A1 el.f1.length c11):=(zj BF.1 1).trans rfl
     have HK:=zz (z1a W1.heap.size W1).drew
     refine zMa implMetaText.ok7_3 (S:=fun w'=>w'.cell? ⟨gF,0,none⟩=some (.int .i64 el.f0)∧w'.cell? ⟨gF,1,none⟩=some (.slice A1 el.f1.length c11)) zq13 (fun _ _ _ _ h=>h) ⟨zi hf0 HK.1,zi hf1 HK.1⟩ (fun hHeld=> ?_)
     iterate 2 (refine zpa (v:= ?_) (a':= ?_) rfl rfl (Or.inl ⟨zq22,zq12⟩) zq3 ?_)
     (refine zbb (v:= ?_) (a':= ?_) rfl rfl (Or.inl ⟨zq22,zq85⟩) zq3 ?_)
     (refine zpa (v:= ?_) (a':= ?_) rfl rfl (Or.inl ⟨zq22,zq12⟩) zq3 ?_)
     (refine zbb (v:= ?_) (a':= ?_) rfl rfl (Or.inl ⟨zq22,zq85⟩) zq3 ?_)
     (refine zpa (v:= ?_) (a':= ?_) rfl rfl (Or.inl ⟨zq22,zq12⟩) zq3 ?_)
     refine zva rfl rfl Tryz.func124 zq13 rfl #[.int .i64 el.f0] zq22 rfl zq14 ?_
     with_reducible refine (varI HV.1 el.f0 nf.1 nf.2 _).mono ?_
     rintro e w2 ⟨rfl,hb⟩
     replace HK:=zz (ze HK.1 hb)
     clear hb
     refine ⟨_,rfl,⟨zi hf0 HK.1,zi hf1 HK.1⟩,(fun hHeld=> ?_)⟩
     refine zha (a':= ?_) zq3 ?_
     refine zva rfl rfl Tryz.func124 zq13 rfl #[.int .i64 (el.f1.length:Int)] zq22 rfl zq14 ?_
     with_reducible refine (varI HV.1 (el.f1.length:Int) zq9 zq9 _).mono ?_
     rintro e w2 ⟨rfl,hb⟩
     replace HK:=zz (ze HK.1 hb)
     clear hb
     refine ⟨_,rfl,⟨zi hf0 HK.1,zi hf1 HK.1⟩,(fun hHeld=> ?_)⟩
     refine zha (a':= ?_) zq3 ?_
     iterate 3 (refine zpa (v:= ?_) (a':= ?_) rfl rfl (Or.inl ⟨zq22,zq12⟩) zq3 ?_)
     refine zZa ?_
     clear hHeld zp za zb
     obtain ⟨s1,hs1⟩:∃s1,s1=s++(vt el.f0++vt (el.f1.length:Int)):=⟨_,rfl⟩
     have hsz1:s1.size≤7016:=by rw [hs1,ByteArray.size_append,ByteArray.size_append];omega
     rw [←hs1]
     have HS1:=zz hs1
     clear hs1 hf0 hf1
     replace BA:=zz (BA.1.step HK.1)
     replace BF:=zz (zg BF.1 HK.1)
     clear HK s0 s3
     have HK:=trivial
     have hf1:w2.cell? ⟨gF,1,none⟩=some (.slice A1 el.f1.length c11):=(zj BF.1 1).trans rfl
     go_wp2_with fail
     clear hf1 BF HK
     go_loopg [4,48] (el.f1.length+1) (fun kq v4 v6 w'=>∃(j:Nat),v4= .string (pacc vt s1 (el.f1.take j))∧v6= .int .i64 (j:Int)∧Z0 (kq+j=el.f1.length+1)∧Z0 (j≤el.f1.length)∧Z0 (BoxAt w w' [.int .i64 x.f0,.int .i64 x.f1,.int .i64 x.f2,.slice (some ad) x.f3.length cF]))
     case atStart=>exact ⟨0,rfl,rfl,⟨zq9⟩,⟨z0b _⟩,BA⟩
     case round=>
      clear BA
      obtain ⟨j,rfl,rfl,HQ2,HI2,BA⟩:=hrel
      obtain ⟨s2,hs2⟩:∃s2,s2=pacc vt s1 (el.f1.take j):=⟨_,rfl⟩
      have hsz2:s2.size≤8000:=by
       have h1:=pacc_size HV.1.vz s1 (el.f1.take j)
       have h3:=List.length_take_le j el.f1
       have h4:=HI2.1
       rw [hs2]
       omega
      rw [←hs2]
      have HS2:=zz hs2
      clear hs2
      by_cases hk:j<el.f1.length
      ·have d1:decide ((j:Int)<(el.f1.length:Int))=true:=z6 zq9
       have d0:decide ((0:Int)≤(j:Int))=true:=z6 zq9
       have d2:((j:Int)<(el.f1.length:Int))=True:=eq_true zq9
       have d3:((0:Int)≤(j:Int))=True:=eq_true zq9
       cases gk with
       |zero=>exact absurd HQ2.1 zq9
       |succ k2=>
        obtain ⟨ap,hAp,pc⟩:=C_at KE.1 hk
        subst hAp
        obtain ⟨p,hp⟩:∃p,p=el.f1[j]:=⟨_,rfl⟩
        rw [←hp] at pc
        have HPK:=zz (show el.f1[j]?=some p from by rw [hp];exact List.getElem?_eq_getElem hk)
        clear hp
        replace pc:=zi pc BA.1.bel
        have np:=(HO.1.fr HE.1).2.2 j p HPK.1
        have sp:=HV.1.vz p
        have za:(9223372036854775807<s2.size+(vt p).size)=False:=eq_false zq9
        go_wp2_with ((with_reducible refine (varI HV.1 p np.1 np.2 _).mono ?_);rintro e w2 ⟨rfl,hb⟩;have HB2:=zz hb;clear hb pc)
        go_roundg k2
        case measure=>omega
        case rel=>exact ⟨j+1,by rw [pacc_succ HPK.1,←HS2.1],zq110,⟨zq51 HQ2.1⟩,⟨zq9⟩,⟨BA.1.step HB2.1⟩⟩
      ·have d1:decide ((j:Int)<(el.f1.length:Int))=false:=z7 zq9
       have HJ:=zz (show j=el.f1.length by have:=HI2.1;omega)
       go_wp2
       go_roundg k1
       case measure=>omega
       case rel=>exact ⟨i+1,by rw [facc_succ HE.1,←HSE.1,ByteArray.append_assoc,←HS1.1,HS2.1,HJ.1,List.take_length],zq110,⟨zq115⟩,⟨zq9⟩,BA⟩
   ·have c1:decide ((i:Int)<(x.f3.length:Int))=false:=z7 zq9
    have hsb:s=mbody vt x:=by rw [HSE.1,show i=x.f3.length by have:=HI.1;omega,List.take_length];rfl
    have HSB:=zz hsb
    clear hsb
    obtain ⟨t0,ht0⟩:∃t0,t0=s++sl s:=⟨_,rfl⟩
    have HT0:=zz ht0
    have hsl4:(sl s).size≤4:=Nat.le_of_eq (HV.1.sz s)
    have hw:(240<t0.size∧t=⟨#[]⟩∧ok=false)∨(t0.size≤240∧t=t0∧ok=true):=zq212
    clear ht0
    have zt:(9223372036854775807<s.size+(sl s).size)=False:=eq_false zq9
    rcases hw with ⟨h,rfl,rfl⟩|⟨h,he,rfl⟩
    ·have g1:decide (240<(t0.size:Int))=true:=z6 zq9
     have g2:decide (240<t0.size)=true:=z6 h
     have hq:t0.size=s.size+(sl s).size:=by rw [HT0.1,ByteArray.size_append]
     have g3:decide (240<(s.size:Int)+((sl s).size:Int))=true:=z6 zq9
     have g4:decide (240<s.size+(sl s).size)=true:=z6 zq9
     exact zq178
    ·obtain rfl:t0=t:=he.symm
     have g1:decide (240<(t0.size:Int))=false:=z7 zq9
     have g2:decide (240<t0.size)=false:=z7 zq9
     have hq:t0.size=s.size+(sl s).size:=by rw [HT0.1,ByteArray.size_append]
     have g3:decide (240<(s.size:Int)+((sl s).size:Int))=false:=z7 zq9
     have g4:decide (240<s.size+(sl s).size)=false:=z7 zq9
     exact zq178
 ·have HO:=zz hh
  obtain ⟨ht,hk⟩:t=⟨#[]⟩∧ok=false:=by
   rcases HM.1 with h|h|h
   ·exact h.2
   ·exact absurd h.1 hh
   ·exact absurd h.1 hh
  subst ht
  subst hk
  clear hh
  go_enter Tryz.func92,Tryz.ntmps92
  go_wp2_with (first|((with_reducible refine zd (N:=9) rfl ?_);refine zf rfl 40 _ rfl w.heap.size 0 [] [.int .i64 x.f0,.int .i64 x.f1,.int .i64 x.f2,.slice AF x.f3.length cF] [] _ rfl BA.1.box rfl rfl Tryz.underlying40 rfl zq13 ?_)|((with_reducible refine (implMetaOk_c x false _ (k40.K_below BA.1.bel KM.1) ⟨fun h=>(by cases h),fun h=>absurd h HO.1⟩).mono ?_);rintro e w1 ⟨rfl,hb⟩;have BA1:=zz (BA.1.step hb);clear hb))
  go_ret2
  exact ⟨rfl,BA1.1.bel⟩
theorem implNM_w {k:Nat} {vt:Int→ByteArray} {sl:ByteArray→ByteArray} (T:TxF k vt sl) (x:S40) (l0:List ByteArray) (l1:List S110) (l2:Int) (l3 l4 l5:List Int) (n:Int) (t:ByteArray) (b:Bool) {cs:List Value} (w:World) (h:kTxn.K w (x,(l0,l1,l2,l3,l4,l5),n) cs) (hx:zua x) (hl:l3.length≤2000000∧l4.length≤2000000∧l5.length≤2000000) (hm:MTxt vt sl (nmM (wrap64 (x.f0+1)) n l2 x l3 l4 l5) t b):
  Calls Tryz.prog 45 #[.agg cs.toArray] w fun e w'=>∃ds:List Value,e= .returned (.tuple #[.agg ds.toArray,.bool b])∧k40.M w' w.heap.size (Fr w w') (if b=true then nmM (wrap64 (x.f0+1)) n l2 x l3 l4 l5 else ⟨0,0,0,[]⟩) ds∧Below w.heap.size w w':=by
 obtain ⟨cM,_,rfl,hM,cW,cI,rfl,hW,hI⟩:=h
 obtain rfl:cI=[.int .i64 n]:=hI
 obtain ⟨AF,cF,rfl,mF,rF⟩:=zEa hM
 obtain ⟨A0,c0,A1,c1,A3,c3,A4,c4,A5,c5,rfl,m0,r0,m1,r1,m3,r3,m4,r4,m5,r5⟩:=zac hW
 simp only [List.cons_append,List.nil_append]
 have HM:=zz hm
 have HV:=zz T
 have KR:=zz rF
 have KU:=zz r3
 have KG:=zz (And.intro m4 r4)
 have KF:=zz r5
 have HX:=zz hx
 have bn:x.f3.length≤2000000:=hx.1
 have b3:=hl.1
 have b4:=hl.2.1
 have b5:=hl.2.2
 clear hM hW mF rF m0 r0 m1 r1 m3 r3 m4 r4 m5 r5 T hm hx hl
 go_enter Tryz.func45,Tryz.ntmps45
 go_upto_region 2 with (fail)
 obtain ⟨W1,hW1⟩:∃W1,W1=((w.alloc (.cells #[.int .i64 x.f0,.int .i64 x.f1,.int .i64 x.f2,.slice AF x.f3.length cF,.slice A0 l0.length c0,.slice A1 l1.length c1,.int .i64 l2,.slice A3 l3.length c3,.slice A4 l4.length c4,.slice A5 l5.length c5,.int .i64 n] 46)).alloc (.cells #[.int .i64 0,.int .i64 0,.int .i64 0,.slice none 0 0] 40)).alloc (.cells #[.int .i64 (wrap64 (x.f0+1)),.int .i64 n,.int .i64 l2,.slice none 0 0] 40):=⟨_,rfl⟩
 have HN:=zz (show NB w W1 [.int .i64 x.f0,.int .i64 x.f1,.int .i64 x.f2,.slice AF x.f3.length cF,.slice A0 l0.length c0,.slice A1 l1.length c1,.int .i64 l2,.slice A3 l3.length c3,.slice A4 l4.length c4,.slice A5 l5.length c5,.int .i64 n] (w.heap.size+1+1) [.int .i64 (wrap64 (x.f0+1)),.int .i64 n,.int .i64 l2] (.slice none 0 0) from by rw [hW1];exact nb0 w [.int .i64 x.f0,.int .i64 x.f1,.int .i64 x.f2,.slice AF x.f3.length cF,.slice A0 l0.length c0,.slice A1 l1.length c1,.int .i64 l2,.slice A3 l3.length c3,.slice A4 l4.length c4,.slice A5 l5.length c5,.int .i64 n] [.int .i64 (wrap64 (x.f0+1)),.int .i64 n,.int .i64 l2])
 rw [←hW1]
 clear hW1
 have hp3:W1.cell? ⟨w.heap.size,3,none⟩=some (.slice AF x.f3.length cF):=(zj HN.1.A 3).trans rfl
 go_wp2_with fail
 clear hp3
 go_loopg [27] (x.f3.length+1) (fun kq v0 w'=>∃(i:Nat) (v:Value),v0= .int .i64 (i:Int)∧Z0 (kq+i=x.f3.length+1)∧Z0 (i≤x.f3.length)∧Z0 (NB w w' [.int .i64 x.f0,.int .i64 x.f1,.int .i64 x.f2,.slice AF x.f3.length cF,.slice A0 l0.length c0,.slice A1 l1.length c1,.int .i64 l2,.slice A3 l3.length c3,.slice A4 l4.length c4,.slice A5 l5.length c5,.int .i64 n] (w.heap.size+1+1) [.int .i64 (wrap64 (x.f0+1)),.int .i64 n,.int .i64 l2] v)∧Z0 (Kd.S k112 112 w' w.heap.size (fun k=>w.heap.size+1+1<k) v (nmF l5 (x.f3.take i))))
 case atStart=>exact ⟨0,_,rfl,⟨zq9⟩,⟨z0b _⟩,HN,⟨Kd.S_nil _ _ _ _ _⟩⟩
 case round=>
  clear HN
  obtain ⟨i,v,rfl,HQ,HI,HN,HS⟩:=hrel
  obtain ⟨fs,hfs⟩:∃fs,fs=nmF l5 (x.f3.take i):=⟨_,rfl⟩
  have hfl:fs.length≤2000000:=by
   have h1:=nmF_len l5 (x.f3.take i)
   have h2:=List.length_take_le i x.f3
   have h3:=HI.1
   rw [hfs]
   omega
  rw [←hfs] at HS
  have HFS:=zz hfs
  clear hfs
  obtain ⟨Av,cv,rfl⟩:=Kd.S_slice HS.1
  by_cases hlt:i<x.f3.length
  ·have e1:decide ((i:Int)<(x.f3.length:Int))=true:=z6 zq9
   have e0:decide ((0:Int)≤(i:Int))=true:=z6 zq9
   have e2:((i:Int)<(x.f3.length:Int))=True:=eq_true zq9
   have e3:((0:Int)≤(i:Int))=True:=eq_true zq9
   cases gk with
   |zero=>exact absurd HQ.1 zq9
   |succ k1=>
    obtain ⟨ad,A2,c11,hA,z0,z1,hl4,hC4⟩:=zxb KR.1 (i:Int) zq9 zq9
    subst hA
    obtain ⟨el,hel⟩:∃el,el=zF x.f3 (i:Int):=⟨_,rfl⟩
    have hel2:x.f3[i]?=some el:=zq72
    rw [←hel] at z0 z1 hl4 hC4
    simp only [Int.toNat_natCast] at z0 z1
    replace z0:=zi z0 HN.1.bel
    replace z1:=zi z1 HN.1.bel
    have HE:=zz hel2
    have KE:=zz (And.intro hl4 hC4)
    have hle:el.f1.length≤2000000:=HX.1.2 el (List.mem_of_getElem? hel2)
    clear hel hel2 hC4 hl4
    go_upto_region 5 with (fail)
    obtain ⟨W1,hW1⟩:∃W1,W1=wr.alloc (.cells #[.int .i64 el.f0,.slice A2 el.f1.length c11] 112):=⟨_,rfl⟩
    have BF:=zz (show W1.heap[wr.heap.size]?=some (.cells ([.int .i64 el.f0,.slice A2 el.f1.length c11]:List Value).toArray 112 (0,0)) from by rw [hW1];exact zqa wr _)
    have HB1:=zz (show Below wr.heap.size wr W1 from by rw [hW1];exact zo (z1a _ _) _)
    rw [←hW1]
    obtain ⟨gF,hgF⟩:∃g,g=wr.heap.size:=⟨_,rfl⟩
    have HS1:=zz (Kd.S_mono (Kd.S_below (Kd.S_bound HS.1) HB1.1) (ok':=fun k=>w.heap.size+1+1<k∧k<gF) (fun k hk=>⟨hk.1,by rw [hgF];exact hk.2.2.1⟩))
    have hGF:w.heap.size+1+1<gF:=by rw [hgF];exact zP HN.1.B
    replace HN:=zz (HN.1.step HB1.1)
    rw [←hgF] at BF ⊢
    clear hW1 z0 z1 hgF HB1 HS
    have hf1:W1.cell? ⟨gF,1,none⟩=some (.slice A2 el.f1.length c11):=(zj BF.1 1).trans rfl
    have KA:=zz (show (Own.arow 3 (Kd.int .i64)).K W1 el.f1 [.slice A2 el.f1.length c11] from ⟨_,_,rfl,KE.1.1,Kd.C_below KE.1.2 HN.1.bel⟩)
    obtain ⟨ps,hps⟩:∃ps,ps=el.f1.filter (kp l5):=⟨_,rfl⟩
    have HPS:=zz hps
    clear hps
    by_cases hpos:0<ps.length
    ·have d1:decide ((0:Int)<(ps.length:Int))=true:=z6 zq9
     have d2:=z6 hpos
     go_wp2_with fail
     (with_reducible refine (zsb el.f1 _ KA.1 hle).mono ?_)
     rintro e w2 ⟨u,rfl,M,hb⟩
     have HN2:=zz (HN.1.step hb)
     have BF2:=zz (zg BF.1 hb)
     have HS2:=zz (Kd.S_below HS1.1 hb)
     have RO2:=zz (Kd.R_mono (Kd.R_lower (own_of_S M) HN.1.bel.size) (ok':=fun k=>gF<k) (fun k hk=>z4a (zP BF.1) hk.1))
     obtain ⟨Au,cu,rfl⟩:=Kd.R_slice (own_of_S M)
     clear M hb
     have HFR:=zz (HN2.1.fr (fr:=l5) rfl KF.1 (row:=(Value.slice Au el.f1.length cu).ownBlock) (fun k hk=>by have h_:gF<k:=RO2.1.1 k hk;omega))
     go_wp2_with fail
     (with_reducible refine (deleteFunc_c el.f1 l5 _ RO2.1 HFR.1 b5 hle).mono ?_)
     rintro e w3 ⟨A8,c8,rfl,hr,hg⟩
     rw [←HPS.1] at hr ⊢
     have RO3:=zz hr
     have HN3:=zz (HN2.1.grown hg (fun k hk=>by have h_:gF<k:=RO2.1.1 k hk;omega))
     have HS3:=zz (Kd.S_grown HS2.1 hg (fun k hk e=>by have h_:gF<k:=RO2.1.1 k e.symm;omega))
     have BF3:=zz (zK BF2.1 hg (fun e=>by have h_:gF<gF:=RO2.1.1 _ e.symm;omega))
     clear hr hg hf1
     have hg3:w3.cell? ⟨w.heap.size+1+1,3,none⟩=some (.slice Av fs.length cv):=(zj HN3.1.B 3).trans rfl
     have hf0:w3.cell? ⟨gF,0,none⟩=some (.int .i64 el.f0):=(zj BF3.1 0).trans rfl
     go_wp2_with (first|((with_reducible refine zea (b:= .append) (xs:= #[.tmp 40,.tmp 45]) rfl ?_);at_builtin;refine nm_app (p:=(⟨el.f0,ps⟩:S112)) (okp:=fun k=>gF<k) rfl (.tmp 40) (.tmp 45) rfl rfl rfl HN3.1 (Kd.S_mono HS3.1 (fun k hk=>⟨hk.1,zq9⟩)) (zyb _ _ _ (⟨el.f0,ps⟩:S112) RO3.1) (fun k hk=>by omega) hfl ?_;intro v1 w4 HN4 HS4;obtain ⟨A9,c9,rfl⟩:=Kd.S_slice HS4.1;obtain ⟨nn,hnn⟩:∃m,m=(fs++[(⟨el.f0,ps⟩:S112)]).length:=⟨_,rfl⟩;simp only [←hnn] at HS4 ⊢;clear hg3 hf0 hnn)|((with_reducible refine zm (t:=38) (p:=47) rfl ?_);refine zT rfl 38 _ _ rfl rfl (w.heap.size+1+1) 3 (.slice A9 nn c9) (.slice Av fs.length cv) [.int .i64 (wrap64 (x.f0+1)),.int .i64 n,.int .i64 l2] [] rfl rfl HN4.1.B rfl rfl zq13 rfl rfl ?_;intro W5 hp hn;have HN5:=zz (HN4.1.put hp hn);have HS5:=zz (putS HS4.1 hp (fun k h e=>by omega));clear hp hn))
     go_roundg k1
     case measure=>omega
     case rel=>exact ⟨i+1,_,zq110,⟨zq115⟩,⟨zq9⟩,HN5,⟨by rw [nmF_succ l5 HE.1,←HFS.1,←HPS.1,if_pos hpos];exact HS5.1⟩⟩
    ·have d1:decide ((0:Int)<(ps.length:Int))=false:=z7 zq9
     have d2:=z7 hpos
     go_wp2_with fail
     (with_reducible refine (zsb el.f1 _ KA.1 hle).mono ?_)
     rintro e w2 ⟨u,rfl,M,hb⟩
     have HN2:=zz (HN.1.step hb)
     have BF2:=zz (zg BF.1 hb)
     have HS2:=zz (Kd.S_below HS1.1 hb)
     have RO2:=zz (Kd.R_mono (Kd.R_lower (own_of_S M) HN.1.bel.size) (ok':=fun k=>gF<k) (fun k hk=>z4a (zP BF.1) hk.1))
     obtain ⟨Au,cu,rfl⟩:=Kd.R_slice (own_of_S M)
     clear M hb
     have HFR:=zz (HN2.1.fr (fr:=l5) rfl KF.1 (row:=(Value.slice Au el.f1.length cu).ownBlock) (fun k hk=>by have h_:gF<k:=RO2.1.1 k hk;omega))
     go_wp2_with fail
     (with_reducible refine (deleteFunc_c el.f1 l5 _ RO2.1 HFR.1 b5 hle).mono ?_)
     rintro e w3 ⟨A8,c8,rfl,hr,hg⟩
     rw [←HPS.1] at hr ⊢
     have RO3:=zz hr
     have HN3:=zz (HN2.1.grown hg (fun k hk=>by have h_:gF<k:=RO2.1.1 k hk;omega))
     have HS3:=zz (Kd.S_grown HS2.1 hg (fun k hk e=>by have h_:gF<k:=RO2.1.1 k e.symm;omega))
     have BF3:=zz (zK BF2.1 hg (fun e=>by have h_:gF<gF:=RO2.1.1 _ e.symm;omega))
     clear hr hg hf1
     have hg3:w3.cell? ⟨w.heap.size+1+1,3,none⟩=some (.slice Av fs.length cv):=(zj HN3.1.B 3).trans rfl
     have hf0:w3.cell? ⟨gF,0,none⟩=some (.int .i64 el.f0):=(zj BF3.1 0).trans rfl
     clear hg3 hf0
     go_wp2
     go_roundg k1
     case measure=>omega
     case rel=>exact ⟨i+1,_,zq110,⟨zq115⟩,⟨zq9⟩,HN3,⟨by rw [nmF_succ l5 HE.1,←HFS.1,←HPS.1,if_neg hpos,List.append_nil];exact Kd.S_mono HS3.1 (fun k hk=>hk.1)⟩⟩
  ·have e1:decide ((i:Int)<(x.f3.length:Int))=false:=z7 zq9
   have hfx:fs=nmF l5 x.f3:=by rw [HFS.1,show i=x.f3.length by have:=HI.1;omega,List.take_length]
   have HFX:=zz hfx
   clear hfx
   have hA8:wr.cell? ⟨w.heap.size,8,none⟩=some (.slice A4 l4.length c4):=(zj HN.1.A 8).trans rfl
   have KA:=zz (show (Own.arow 3 (Kd.int .i64)).K wr l4 [.slice A4 l4.length c4] from ⟨_,_,rfl,KG.1.1,Kd.C_below KG.1.2 HN.1.bel⟩)
   go_wp2_with fail
   (with_reducible refine (zsb l4 _ KA.1 b4).mono ?_)
   rintro e w2 ⟨u,rfl,M,hb⟩
   obtain ⟨T,hT⟩:∃T,T=wr.heap.size:=⟨_,rfl⟩
   have HS2:=zz (Kd.S_mono (Kd.S_below (Kd.S_bound HS.1) hb) (ok':=fun k=>w.heap.size+1+1<k∧k<T) (fun k hk=>⟨hk.1,by rw [hT];exact hk.2.2.1⟩))
   have HGT:=zz (show T≤w2.heap.size∧w.heap.size+1+1<T from ⟨by rw [hT];exact hb.size,by rw [hT];exact zP HN.1.B⟩)
   have HN2:=zz (HN.1.step hb)
   have RO2:=zz (Kd.R_mono (Kd.R_lower (own_of_S M) HN.1.bel.size) (ok':=fun k=>T≤k) (fun k hk=>by rw [hT];exact hk.1))
   clear M hb hT HN HS KA hA8 e1
   have hA7:w2.cell? ⟨w.heap.size,7,none⟩=some (.slice A3 l3.length c3):=(zj HN2.1.A 7).trans rfl
   go_wp2_with fail
   clear hA7
   go_loopg [8,57] (l3.length+1) (fun kq v8 v2 w'=>∃(j:Nat) (vo:Value),v8=vo∧v2= .int .i64 (j:Int)∧Z0 (kq+j=l3.length+1)∧Z0 (j≤l3.length)∧Z0 (NB w w' [.int .i64 x.f0,.int .i64 x.f1,.int .i64 x.f2,.slice AF x.f3.length cF,.slice A0 l0.length c0,.slice A1 l1.length c1,.int .i64 l2,.slice A3 l3.length c3,.slice A4 l4.length c4,.slice A5 l5.length c5,.int .i64 n] (w.heap.size+1+1) [.int .i64 (wrap64 (x.f0+1)),.int .i64 n,.int .i64 l2] (.slice Av fs.length cv))∧Z0 (Kd.S k112 112 w' w.heap.size (fun k=>w.heap.size+1+1<k∧k<T) (.slice Av fs.length cv) fs)∧Z0 (Kd.R (Kd.int .i64) 3 w' w.heap.size (fun k=>T≤k) vo (l4++(l3.take j).filter (fun p=>decide (x.f2≤p))))∧Z0 (T≤w'.heap.size∧w.heap.size+1+1<T))
   case atStart=>exact ⟨0,_,rfl,rfl,⟨zq9⟩,⟨z0b _⟩,HN2,HS2,⟨by rw [List.take_zero,List.filter_nil,List.append_nil];exact RO2.1⟩,HGT⟩
   case round=>
    clear HN2 HS2 RO2 HGT
    obtain ⟨j,vo,rfl,rfl,HQ2,HJ,HN,HS,HO,HGT⟩:=hrel
    obtain ⟨xs,hxs⟩:∃xs,xs=l4++(l3.take j).filter (fun p=>decide (x.f2≤p)):=⟨_,rfl⟩
    have hxl:xs.length≤4000000:=zq206
    rw [←hxs] at HO
    have HXS:=zz hxs
    clear hxs
    obtain ⟨Ao,co,rfl⟩:=Kd.R_slice HO.1
    by_cases hlt:j<l3.length
    ·have d1:decide ((j:Int)<(l3.length:Int))=true:=z6 zq9
     have d0:decide ((0:Int)≤(j:Int))=true:=z6 zq9
     have d2:((j:Int)<(l3.length:Int))=True:=eq_true zq9
     have d3:((0:Int)≤(j:Int))=True:=eq_true zq9
     cases gk with
     |zero=>exact absurd HQ2.1 zq9
     |succ k2=>
      obtain ⟨ap,hAp,pc⟩:=C_at KU.1 hlt
      subst hAp
      obtain ⟨p,hp⟩:∃p,p=l3[j]:=⟨_,rfl⟩
      rw [←hp] at pc
      have HPK:=zz (show l3[j]?=some p from by rw [hp];exact List.getElem?_eq_getElem hlt)
      clear hp
      replace pc:=zi pc HN.1.bel
      have hA2:wr.cell? ⟨w.heap.size,2,none⟩=some (.int .i64 x.f2):=(zj HN.1.A 2).trans rfl
      by_cases hp:x.f2≤p
      ·have g1:=z6 hp
       go_wp2_with ((with_reducible refine zea (b:= .append) (xs:= #[.tmp 66,.tmp 68]) rfl ?_);at_builtin;refine own_app rfl (.tmp 66) (.tmp 68) rfl rfl rfl HN.1 HS.1 HO.1 HGT.1 hxl ?_;intro v1 w4 HN4 HS4 HO4 HT4;clear pc hA2)
       go_roundg k2
       case measure=>omega
       case rel=>exact ⟨j+1,_,rfl,zq110,⟨zq51 HQ2.1⟩,⟨zq9⟩,HN4,HS4,⟨by rw [own_succ x.f2 HPK.1,←HXS.1,if_pos hp];exact HO4.1⟩,⟨HT4.1,HGT.1.2⟩⟩
      ·have g1:=z7 hp
       go_wp2
       go_roundg k2
       case measure=>omega
       case rel=>exact ⟨j+1,_,rfl,zq110,⟨zq51 HQ2.1⟩,⟨zq9⟩,HN,HS,⟨by rw [own_succ x.f2 HPK.1,←HXS.1,if_neg zq9,List.append_nil];exact HO.1⟩,HGT⟩
    ·have d1:decide ((j:Int)<(l3.length:Int))=false:=z7 zq9
     have hsx:srt xs=nmOwn x.f2 l3 l4:=by rw [HXS.1,show j=l3.length by have:=HJ.1;omega,List.take_length];rfl
     have HSX:=zz hsx
     clear hsx
     go_wp2_with fail
     (with_reducible refine (sort_own (Kd.R_mono HO.1 (fun _ _=>trivial)) hxl).mono ?_)
     rintro e w5 ⟨rfl,ho,hg⟩
     have hown:∀k,(Value.slice Ao xs.length co).ownBlock=some k→T≤k:=HO.1.1
     have HO5:=zz (R_ints ho hown)
     have HN5:=zz (HN.1.grown hg (fun k hk=>by have:=hown k hk;have:=HGT.1.2;omega))
     have HS5:=zz (Kd.S_grown HS.1 hg (fun k hk e=>by have:=hown k e.symm;have:=hk.2;omega))
     have HG5:=zz HGT.1.2
     clear ho hg hown HO HN HS HGT d1
     have hg3:w5.cell? ⟨w.heap.size+1+1,3,none⟩=some (.slice Av fs.length cv):=(zj HN5.1.B 3).trans rfl
     have hg0:w5.cell? ⟨w.heap.size+1+1,0,none⟩=some (.int .i64 (wrap64 (x.f0+1))):=(zj HN5.1.B 0).trans rfl
     by_cases hpos:0<xs.length
     ·have g1:decide ((0:Int)<(xs.length:Int))=true:=z6 zq9
      have g2:=z6 hpos
      have hmf:(nmM (wrap64 (x.f0+1)) n l2 x l3 l4 l5).f3=fs++[(⟨wrap64 (x.f0+1),srt xs⟩:S112)]:=by
       show nmF l5 x.f3++_=_
       rw [←HSX.1,←HFX.1,if_pos (by rw [srt_len];exact hpos)]
      have HMF:=zz hmf
      clear hmf
      go_upto_region 19 with (first|((with_reducible refine zea (b:= .append) (xs:= #[.tmp 77,.tmp 82]) rfl ?_);at_builtin;refine nm_app (p:=(⟨wrap64 (x.f0+1),srt xs⟩:S112)) (okp:=fun k=>T≤k) rfl (.tmp 77) (.tmp 82) rfl rfl rfl HN5.1 (Kd.S_mono HS5.1 (fun k hk=>⟨hk.1,zq9⟩)) (zyb _ _ _ (⟨wrap64 (x.f0+1),srt xs⟩:S112) HO5.1) (fun k hk=>by have:=HG5.1;omega) hfl ?_;intro v1 w6 HN6 HS6;obtain ⟨A9,c9,rfl⟩:=Kd.S_slice HS6.1;obtain ⟨nn,hnn⟩:∃m,m=(fs++[(⟨wrap64 (x.f0+1),srt xs⟩:S112)]).length:=⟨_,rfl⟩;simp only [←hnn] at HS6 ⊢;clear hg3 hg0;clear hnn)|((with_reducible refine zm (t:=38) (p:=84) rfl ?_);refine zT rfl 38 _ _ rfl rfl (w.heap.size+1+1) 3 (.slice A9 nn c9) (.slice Av fs.length cv) [.int .i64 (wrap64 (x.f0+1)),.int .i64 n,.int .i64 l2] [] rfl rfl HN6.1.B rfl rfl zq13 rfl rfl ?_;intro W7 hp hn;have HN7:=zz (HN6.1.put hp hn);have HS7:=zz (putS HS6.1 hp (fun k h e=>by omega));clear hp hn))
      have hsl:=Kd.S_reads' HS7.1
      obtain ⟨hs1,hs2,hs3⟩:=hsl
      have HK:=zz (show k40.K W7 (nmM (wrap64 (x.f0+1)) n l2 x l3 l4 l5) [.int .i64 (wrap64 (x.f0+1)),.int .i64 n,.int .i64 l2,.slice A9 nn c9] from by have h:=k40_mk (A3:=A9) (c3:=c9) W7 (nmM (wrap64 (x.f0+1)) n l2 x l3 l4 l5) (by rw [HMF.1,←hs1];exact hs2) (by rw [HMF.1];exact hs3);rwa [HMF.1,←hs1] at h)
      have HSM:=zz (show Kd.S k112 112 W7 w.heap.size (fun k=>w.heap.size+1+1<k) (.slice A9 nn c9) (nmM (wrap64 (x.f0+1)) n l2 x l3 l4 l5).f3 from by rw [HMF.1];exact HS7.1)
      clear hs1 hs2 hs3
      cases b with
      |false=>
       go_wp2_with (first|((with_reducible refine zd (N:=86) rfl ?_);refine zf rfl 40 _ rfl (w.heap.size+1+1) 0 [] [.int .i64 (wrap64 (x.f0+1)),.int .i64 n,.int .i64 l2,.slice A9 nn c9] [] _ rfl HN7.1.B rfl rfl Tryz.underlying40 rfl zq13 ?_)|((with_reducible refine (zWa HV.1 _ t false _ HK.1 HM.1).mono ?_);rintro e w8 ⟨rfl,hb⟩;have HN8:=zz (HN7.1.step hb);have HS8:=zz (Kd.S_below HSM.1 hb);clear hb)|((with_reducible refine zm (t:=40) (p:=2) rfl ?_);refine zn rfl 40 _ _ rfl rfl (w.heap.size+1) 0 [.int .i64 0,.int .i64 0,.int .i64 0,.slice none 0 0] [] [.int .i64 0,.int .i64 0,.int .i64 0,.slice none 0 0] [] rfl rfl HN8.1.R rfl rfl rfl zq13 (fun v hv=>by simp only [List.mem_cons,List.not_mem_nil,or_false] at hv;rcases hv with rfl|rfl|rfl|rfl<;>rfl) ?_;intro W9 hp hn;have HR9:=zz hn;have HP9:=zz hp;clear hp hn))
       refine bodyPost_ret (zG (rs:=[.cell 2 40,.tmp 3]) rfl zq38 (.cell (w.heap.size+1) 40 _ _ _ rfl HR9.1 Tryz.underlying40 rfl zq13 (.tmp .nil))) rfl ?_
       have hb9:=HP9.1.below w zq9 HN8.1.bel
       exact ⟨_,rfl,zlb _ _ _ (⟨0,0,0,[]⟩:S40) (Kd.S_nil _ _ _ _ _),hb9⟩
      |true=>
       go_wp2_with (first|((with_reducible refine zd (N:=86) rfl ?_);refine zf rfl 40 _ rfl (w.heap.size+1+1) 0 [] [.int .i64 (wrap64 (x.f0+1)),.int .i64 n,.int .i64 l2,.slice A9 nn c9] [] _ rfl HN7.1.B rfl rfl Tryz.underlying40 rfl zq13 ?_)|((with_reducible refine (zWa HV.1 _ t true _ HK.1 HM.1).mono ?_);rintro e w8 ⟨rfl,hb⟩;have HN8:=zz (HN7.1.step hb);have HS8:=zz (Kd.S_below HSM.1 hb);clear hb)|((with_reducible refine zd (N:=93) rfl ?_);refine zf rfl 40 _ rfl (w.heap.size+1+1) 0 [] [.int .i64 (wrap64 (x.f0+1)),.int .i64 n,.int .i64 l2,.slice A9 nn c9] [] _ rfl HN8.1.B rfl rfl Tryz.underlying40 rfl zq13 ?_)|((with_reducible refine zm (t:=40) (p:=2) rfl ?_);refine zn rfl 40 _ _ rfl rfl (w.heap.size+1) 0 [.int .i64 (wrap64 (x.f0+1)),.int .i64 n,.int .i64 l2,.slice A9 nn c9] [] [.int .i64 0,.int .i64 0,.int .i64 0,.slice none 0 0] [] rfl rfl HN8.1.R rfl rfl rfl zq13 (fun v hv=>by simp only [List.mem_cons,List.not_mem_nil,or_false] at hv;rcases hv with rfl|rfl|rfl|rfl<;>rfl) ?_;intro W9 hp hn;have HR9:=zz hn;have HP9:=zz hp;clear hp hn))
       refine bodyPost_ret (zG (rs:=[.cell 2 40,.tmp 3]) rfl zq38 (.cell (w.heap.size+1) 40 _ _ _ rfl HR9.1 Tryz.underlying40 rfl zq13 (.tmp .nil))) rfl ?_
       have hb9:=HP9.1.below w zq9 HN8.1.bel
       have hS:=putS HS8.1 HP9.1 (fun k h e=>by omega)
       exact ⟨_,rfl,zlb _ _ _ (nmM (wrap64 (x.f0+1)) n l2 x l3 l4 l5) (Kd.S_mono (Kd.S_bound hS) (fun k hk=>⟨hk.2.1,hk.2.2.1⟩)),hb9⟩
     ·have g1:decide ((0:Int)<(xs.length:Int))=false:=z7 zq9
      have g2:=z7 hpos
      have hmf:(nmM (wrap64 (x.f0+1)) n l2 x l3 l4 l5).f3=fs:=by
       show nmF l5 x.f3++_=_
       rw [←HSX.1,←HFX.1,if_neg (by rw [srt_len];exact hpos),List.append_nil]
      have HMF:=zz hmf
      clear hmf
      go_upto_region 19 with (fail)
      clear hg3 hg0
      have hsl:=Kd.S_reads' HS5.1
      obtain ⟨hs1,hs2,hs3⟩:=hsl
      have HK:=zz (show k40.K w5 (nmM (wrap64 (x.f0+1)) n l2 x l3 l4 l5) [.int .i64 (wrap64 (x.f0+1)),.int .i64 n,.int .i64 l2,.slice Av fs.length cv] from by have h:=k40_mk (A3:=Av) (c3:=cv) w5 (nmM (wrap64 (x.f0+1)) n l2 x l3 l4 l5) (by rw [HMF.1];exact hs2) (by rw [HMF.1];exact hs3);rwa [HMF.1] at h)
      have HSM:=zz (show Kd.S k112 112 w5 w.heap.size (fun k=>w.heap.size+1+1<k) (.slice Av fs.length cv) (nmM (wrap64 (x.f0+1)) n l2 x l3 l4 l5).f3 from by rw [HMF.1];exact Kd.S_mono HS5.1 (fun k hk=>hk.1))
      clear hs1 hs2 hs3
      cases b with
      |false=>
       go_wp2_with (first|((with_reducible refine zd (N:=86) rfl ?_);refine zf rfl 40 _ rfl (w.heap.size+1+1) 0 [] [.int .i64 (wrap64 (x.f0+1)),.int .i64 n,.int .i64 l2,.slice Av fs.length cv] [] _ rfl HN5.1.B rfl rfl Tryz.underlying40 rfl zq13 ?_)|((with_reducible refine (zWa HV.1 _ t false _ HK.1 HM.1).mono ?_);rintro e w8 ⟨rfl,hb⟩;have HN8:=zz (HN5.1.step hb);have HS8:=zz (Kd.S_below HSM.1 hb);clear hb)|((with_reducible refine zm (t:=40) (p:=2) rfl ?_);refine zn rfl 40 _ _ rfl rfl (w.heap.size+1) 0 [.int .i64 0,.int .i64 0,.int .i64 0,.slice none 0 0] [] [.int .i64 0,.int .i64 0,.int .i64 0,.slice none 0 0] [] rfl rfl HN8.1.R rfl rfl rfl zq13 (fun v hv=>by simp only [List.mem_cons,List.not_mem_nil,or_false] at hv;rcases hv with rfl|rfl|rfl|rfl<;>rfl) ?_;intro W9 hp hn;have HR9:=zz hn;have HP9:=zz hp;clear hp hn))
       refine bodyPost_ret (zG (rs:=[.cell 2 40,.tmp 3]) rfl zq38 (.cell (w.heap.size+1) 40 _ _ _ rfl HR9.1 Tryz.underlying40 rfl zq13 (.tmp .nil))) rfl ?_
       have hb9:=HP9.1.below w zq9 HN8.1.bel
       exact ⟨_,rfl,zlb _ _ _ (⟨0,0,0,[]⟩:S40) (Kd.S_nil _ _ _ _ _),hb9⟩
      |true=>
       go_wp2_with (first|((with_reducible refine zd (N:=86) rfl ?_);refine zf rfl 40 _ rfl (w.heap.size+1+1) 0 [] [.int .i64 (wrap64 (x.f0+1)),.int .i64 n,.int .i64 l2,.slice Av fs.length cv] [] _ rfl HN5.1.B rfl rfl Tryz.underlying40 rfl zq13 ?_)|((with_reducible refine (zWa HV.1 _ t true _ HK.1 HM.1).mono ?_);rintro e w8 ⟨rfl,hb⟩;have HN8:=zz (HN5.1.step hb);have HS8:=zz (Kd.S_below HSM.1 hb);clear hb)|((with_reducible refine zd (N:=93) rfl ?_);refine zf rfl 40 _ rfl (w.heap.size+1+1) 0 [] [.int .i64 (wrap64 (x.f0+1)),.int .i64 n,.int .i64 l2,.slice Av fs.length cv] [] _ rfl HN8.1.B rfl rfl Tryz.underlying40 rfl zq13 ?_)|((with_reducible refine zm (t:=40) (p:=2) rfl ?_);refine zn rfl 40 _ _ rfl rfl (w.heap.size+1) 0 [.int .i64 (wrap64 (x.f0+1)),.int .i64 n,.int .i64 l2,.slice Av fs.length cv] [] [.int .i64 0,.int .i64 0,.int .i64 0,.slice none 0 0] [] rfl rfl HN8.1.R rfl rfl rfl zq13 (fun v hv=>by simp only [List.mem_cons,List.not_mem_nil,or_false] at hv;rcases hv with rfl|rfl|rfl|rfl<;>rfl) ?_;intro W9 hp hn;have HR9:=zz hn;have HP9:=zz hp;clear hp hn))
       refine bodyPost_ret (zG (rs:=[.cell 2 40,.tmp 3]) rfl zq38 (.cell (w.heap.size+1) 40 _ _ _ rfl HR9.1 Tryz.underlying40 rfl zq13 (.tmp .nil))) rfl ?_
       have hb9:=HP9.1.below w zq9 HN8.1.bel
       have hS:=putS HS8.1 HP9.1 (fun k h e=>by omega)
       exact ⟨_,rfl,zlb _ _ _ (nmM (wrap64 (x.f0+1)) n l2 x l3 l4 l5) (Kd.S_mono (Kd.S_bound hS) (fun k hk=>⟨hk.2.1,hk.2.2.1⟩)),hb9⟩
def ImplNM (k:Nat) (d:(S40×(List ByteArray×List S110×Int×List Int×List Int×List Int)×Int)) (z:S40) (b:Bool):Prop:=∃(vt:Int→ByteArray) (sl:ByteArray→ByteArray) (t:ByteArray),TxF k vt sl∧zua d.1∧(d.2.1.2.2.2.1.length≤2000000∧d.2.1.2.2.2.2.1.length≤2000000∧d.2.1.2.2.2.2.2.length≤2000000)∧MTxt vt sl (nmM (wrap64 (d.1.f0+1)) d.2.2 d.2.1.2.2.1 d.1 d.2.1.2.2.2.1 d.2.1.2.2.2.2.1 d.2.1.2.2.2.2.2) t b∧z=(if b=true then nmM (wrap64 (d.1.f0+1)) d.2.2 d.2.1.2.2.1 d.1 d.2.1.2.2.2.1 d.2.1.2.2.2.2.1 d.2.1.2.2.2.2.2 else ⟨0,0,0,[]⟩)
theorem implNM_c (k:Nat) (d:(S40×(List ByteArray×List S110×Int×List Int×List Int×List Int)×Int)) (z:S40) (b:Bool) {cs:List Value} (w:World) (h:kTxn.K w d cs) (hf:ImplNM k d z b):
  Calls Tryz.prog 45 #[.agg cs.toArray] w fun e w'=>∃ds:List Value,e= .returned (.tuple #[.agg ds.toArray,.bool b])∧k40.M w' w.heap.size (Fr w w') z ds∧Below w.heap.size w w':=by
 obtain ⟨x,⟨l0,l1,l2,l3,l4,l5⟩,n⟩:=d
 obtain ⟨vt,sl,t,T,hx,hl,hm,rfl⟩:=hf
 exact implNM_w T x l0 l1 l2 l3 l4 l5 n t b w h hx hl hm
def SpecNM (k:Nat) (d:(S40×(List ByteArray×List S110×Int×List Int×List Int×List Int)×Int)) (z:S40) (b:Bool):Prop:=∃(vt:Int→ByteArray) (sl:ByteArray→ByteArray) (tx:Int) (t:ByteArray),TxF k vt sl∧zua d.1∧(d.2.1.2.2.2.1.length≤2000000∧d.2.1.2.2.2.2.1.length≤2000000∧d.2.1.2.2.2.2.2.length≤2000000)∧((d.1.f0<100001∧tx=wrap64 (d.1.f0+1))∨(¬d.1.f0<100001∧tx=d.1.f0))∧MTxt vt sl (nmM tx d.2.2 d.2.1.2.2.1 d.1 d.2.1.2.2.2.1 d.2.1.2.2.2.2.1 d.2.1.2.2.2.2.2) t b∧z=(if b=true then nmM tx d.2.2 d.2.1.2.2.1 d.1 d.2.1.2.2.2.1 d.2.1.2.2.2.2.1 d.2.1.2.2.2.2.2 else ⟨0,0,0,[]⟩)
theorem specNM_c (k:Nat) (d:(S40×(List ByteArray×List S110×Int×List Int×List Int×List Int)×Int)) (z:S40) (b:Bool) {cs:List Value} (w:World) (h:kTxn.K w d cs) (hf:SpecNM k d z b):
  Calls Tryz.prog 35 #[.agg cs.toArray] w fun e w'=>∃ds:List Value,e= .returned (.tuple #[.agg ds.toArray,.bool b])∧k40.M w' w.heap.size (Fr w w') z ds∧Below w.heap.size w w':=by
 obtain ⟨x,⟨l0,l1,l2,l3,l4,l5⟩,n⟩:=d
 obtain ⟨vt,sl,tx,t,T,hx,hl,htx,hm,rfl⟩:=hf
 exact specNM_w T x l0 l1 l2 l3 l4 l5 n tx htx t b w h hx hl hm
@[reducible] def EqMeta (k:Nat) (z:S40):Prop:=eqMeta_c_f k z z=some true
@[reducible] def HeldMeta (k:Nat) (z:S40) (a r:Int):Prop:=zwb k z a=some r
def OKt (d:(S40×(List ByteArray×List S110×Int×List Int×List Int×List Int)×Int)):Prop:=d.1.f0≤9223372036854775807∧OKn d.1.f3∧(d.2.1.1.length≤1048576∧d.2.1.2.1.length≤1048576)∧d.2.1.2.2.2.1.length≤1048576∧d.2.1.2.2.2.2.1.length≤1048576∧d.2.1.2.2.2.2.2.length≤1048576
theorem mt_ex_ (vt:Int→ByteArray) (sl:ByteArray→ByteArray) (x:S40):∃t b,MTxt vt sl x t b∧(b=true→MOk x):=by
 by_cases h:MOk x
 ·by_cases g:240<(mbody vt x++sl (mbody vt x)).size
  ·exact ⟨_,_,.inr (.inl ⟨h,g,rfl,rfl⟩),fun h=>by cases h⟩
  ·exact ⟨_,_,.inr (.inr ⟨h,zq9,rfl,rfl⟩),fun _=>h⟩
 ·exact ⟨_,_,.inl ⟨h,rfl,rfl⟩,fun h=>by cases h⟩
theorem MOk.okn {x:S40} (h:MOk x):OKn x.f3:=by
 have:=h.len
 exact ⟨zq9,fun s hs=>by have:=h.le40 s hs;omega⟩
def CloneImpl (k:Nat) (d:((List ByteArray×List S110)×S40×List S135×(S40×(List ByteArray×List S110×Int×List Int×List Int×List Int)×Int)×Bool×Bool)):Prop:=impl_cloneDisk.f d.1.1 d.1.2=some (d.1.1,d.1.2)∧impl_cloneMeta.f k d.2.1.f0 d.2.1.f1 d.2.1.f2 d.2.1.f3=some (d.2.1.f0,d.2.1.f1,d.2.1.f2,d.2.1.f3)∧(∀r∈d.2.2.1,impl_cloneMeta.f k r.f1.f0 r.f1.f1 r.f1.f2 r.f1.f3=some (r.f1.f0,r.f1.f1,r.f1.f2,r.f1.f3))∧impl_cloneMeta.f k d.2.2.2.1.1.f0 d.2.2.2.1.1.f1 d.2.2.2.1.1.f2 d.2.2.2.1.1.f3=some (d.2.2.2.1.1.f0,d.2.2.2.1.1.f1,d.2.2.2.1.1.f2,d.2.2.2.1.1.f3)∧((d.2.2.2.1.2.1.1.length≤2000000∧d.2.2.2.1.2.1.2.1.length≤2000000)∧d.2.2.2.1.2.1.2.2.2.1.length≤2000000∧d.2.2.2.1.2.1.2.2.2.2.1.length≤2000000∧d.2.2.2.1.2.1.2.2.2.2.2.length≤2000000)∧d.2.2.1.length≤2000000
def ImplStop (k:Nat) (d z:((List ByteArray×List S110)×S40×List S135×(S40×(List ByteArray×List S110×Int×List Int×List Int×List Int)×Int)×Bool×Bool)) (c:Int):Prop:=CloneImpl k d∧((d.2.2.2.2.1=false∧z=d∧c=2)∨(d.2.2.2.2.1=true∧c=0∧∃e0 e1,impl_SyncDisk.f k d.2.2.2.1.2.1.1 d.2.2.2.1.2.1.2.1=some (e0,e1)∧z=((e0,e1),d.2.1,d.2.2.1,(⟨0,0,0,[]⟩,([],[],0,[],[],[]),0),false,false)))
theorem implStop_c (k:Nat) (d z:((List ByteArray×List S110)×S40×List S135×(S40×(List ByteArray×List S110×Int×List Int×List Int×List Int)×Int)×Bool×Bool)) (c:Int) {cs:List Value} (w:World) (h:kStore.K w d cs) (hf:ImplStop k d z c):
  Calls Tryz.prog 69 #[.agg cs.toArray] w fun e w'=>∃ds:List Value,e= .returned (.tuple #[.agg ds.toArray,.int .i64 c])∧kStore.M w' w.heap.size (Fr w w') z ds∧Below w.heap.size w w':=by
 obtain ⟨⟨a0,a1⟩,x,rs,⟨y,⟨l0,l1,l2,l3,l4,l5⟩,n⟩,bw,bf⟩:=d
 obtain ⟨⟨f1,f2,f3,f4,f5,hl⟩,⟨hw,rfl,rfl⟩|⟨hw,rfl,e0,e1,f6,rfl⟩⟩:=hf
 ·cases hw
  exact implStop_f k a0 a1 x rs y l0 l1 l2 l3 l4 l5 n bf w h f1 f2 f3 f4 f5 hl
 ·cases hw
  exact implStop_t k a0 a1 x rs y l0 l1 l2 l3 l4 l5 n bf e0 e1 w h f1 f2 f3 f4 f5 hl f6
def CloneSpec (k:Nat) (d:((List ByteArray×List S110)×S40×List S135×(S40×(List ByteArray×List S110×Int×List Int×List Int×List Int)×Int)×Bool×Bool)):Prop:=(d.1.1.length≤2000000∧d.1.2.length≤2000000)∧zua d.2.1∧(∀r∈d.2.2.1,zua r.f1)∧zua d.2.2.2.1.1∧((d.2.2.2.1.2.1.1.length≤2000000∧d.2.2.2.1.2.1.2.1.length≤2000000)∧d.2.2.2.1.2.1.2.2.2.1.length≤2000000∧d.2.2.2.1.2.1.2.2.2.2.1.length≤2000000∧d.2.2.2.1.2.1.2.2.2.2.2.length≤2000000)∧d.2.2.1.length≤2000000
def SpecStop (k:Nat) (d z:((List ByteArray×List S110)×S40×List S135×(S40×(List ByteArray×List S110×Int×List Int×List Int×List Int)×Int)×Bool×Bool)) (c:Int):Prop:=CloneSpec k d∧((d.2.2.2.2.1=false∧z=d∧c=2)∨(d.2.2.2.2.1=true∧c=0∧∃e0 e1,spec_SyncDisk.f k d.2.2.2.1.2.1.1 d.2.2.2.1.2.1.2.1=some (e0,e1)∧z=((e0,e1),d.2.1,d.2.2.1,(⟨0,0,0,[]⟩,([],[],0,[],[],[]),0),false,false)))
theorem specStop_c (k:Nat) (d z:((List ByteArray×List S110)×S40×List S135×(S40×(List ByteArray×List S110×Int×List Int×List Int×List Int)×Int)×Bool×Bool)) (c:Int) {cs:List Value} (w:World) (h:kStore.K w d cs) (hf:SpecStop k d z c):
  Calls Tryz.prog 64 #[.agg cs.toArray] w fun e w'=>∃ds:List Value,e= .returned (.tuple #[.agg ds.toArray,.int .i64 c])∧kStore.M w' w.heap.size (Fr w w') z ds∧Below w.heap.size w w':=by
 obtain ⟨⟨a0,a1⟩,x,rs,⟨y,⟨l0,l1,l2,l3,l4,l5⟩,n⟩,bw,bf⟩:=d
 obtain ⟨⟨f1,f2,f3,f4,f5,hl⟩,⟨hw,rfl,rfl⟩|⟨hw,rfl,e0,e1,f6,rfl⟩⟩:=hf
 ·cases hw
  exact specStop_f a0 a1 x rs y l0 l1 l2 l3 l4 l5 n bf w h f1 f2 f3 f4 f5 hl
 ·cases hw
  exact specStop_t k a0 a1 x rs y l0 l1 l2 l3 l4 l5 n bf e0 e1 w h f1 f2 f3 f4 f5 hl f6
theorem cloneM_go (l:List S112) (f0 f1 f2:Int) (hl:l.length≤1048576) (hs:∀s∈l,s.f1.length≤1048576):∀(n i:Nat),i+n=l.length→Ev (fun k=>impl_cloneMeta.l0 k (l.take i) l (l.length:Int) (i:Int) f0 f1 f2 l) (f0,f1,f2,l):=by
 intro n
 induction n with
 |zero=>
  intro i hi
  refine Ev.step (f:=fun _=>some (f0,f1,f2,l)) (fun k=> ?_) (Ev.now _)
  rw [impl_cloneMeta.l0,if_neg zq9,List.take_of_length_le zq9]
 |succ n ih=>
  intro i hi
  have hlt:i<l.length:=zq9
  have hsi:=hs _ (List.getElem_mem hlt)
  refine Ev.step (f:=fun k=>impl_cloneMeta.l0 k (l.take (i+1)) l (l.length:Int) ((i+1:Nat):Int) f0 f1 f2 l) (fun k=> ?_) (ih (i+1) zq9)
  rw [impl_cloneMeta.l0,if_pos zq9,if_pos zq9,if_pos zq9,zic _ _ hlt]
  unfold slices_Clone_int_int.f
  rw [if_pos zq9,Option.bind_some,if_pos zq132,zJ zq9 zq9,List.take_succ_eq_append_getElem hlt]
  rfl
theorem cloneM_ev (x:S40) (h:OKn x.f3):Ev (fun k=>impl_cloneMeta.f k x.f0 x.f1 x.f2 x.f3) (x.f0,x.f1,x.f2,x.f3):=cloneM_go x.f3 x.f0 x.f1 x.f2 h.1 h.2 x.f3.length 0 zq9
theorem cloneR_ev (l:List S135) (hs:∀s∈l,OKn s.f1.f3):EvP (fun k=>∀r∈l,impl_cloneMeta.f k r.f1.f0 r.f1.f1 r.f1.f2 r.f1.f3=some (r.f1.f0,r.f1.f1,r.f1.f2,r.f1.f3)):=by
 induction l with
 |nil=>exact ⟨0,fun k _ r h=>by cases h⟩
 |cons x l ih=>
  refine ((EvP.of (cloneM_ev x.f1 (hs x (List.mem_cons_self)))).and (ih (fun s h=>hs s (List.mem_cons_of_mem _ h)))).imp ?_
  rintro k ⟨h1,h2⟩ r hr
  rcases List.mem_cons.1 hr with rfl|hr
  ·exact h1
  ·exact h2 r hr
theorem sync_go (p:List ByteArray) (q:List S110) (hp:p.length≤2000000) (hq:q.length≤2000000):∀(n i:Nat) (e:List ByteArray),i+n=q.length→e.length=p.length→∃e',Ev (fun k=>spec_SyncDisk.l0 k (i:Int) p q e) (e',[])∧Ev (fun k=>impl_SyncDisk.l0 k q (q.length:Int) (i:Int) p q e q) (e',[])∧e'.length=p.length:=by
 intro n
 induction n with
 |zero=>
  intro i e hi he
  refine ⟨e,Ev.step (f:=fun _=>some (e,[])) (fun k=> ?_) (Ev.now _),Ev.step (f:=fun _=>some (e,[])) (fun k=> ?_) (Ev.now _),he⟩
  ·rw [spec_SyncDisk.l0,if_neg zq9]
  ·rw [impl_SyncDisk.l0,if_neg zq9]
 |succ n ih=>
  intro i e hi he
  have hlt:i<q.length:=zq9
  have w1:wrap64 ((p.length:Int)-1)=(p.length:Int)-1:=zJ zq9 zq9
  have w2:wrap64 ((i:Int)+1)=((i+1:Nat):Int):=by rw [zJ zq9 zq9];omega
  by_cases hx:0≤q[i].f0∧q[i].f0≤(p.length:Int)-1
  ·obtain ⟨e',e1,e2,e3⟩:=ih (i+1) (e.set q[i].f0.toNat q[i].f1) zq9 (by rw [List.length_set];exact he)
   refine ⟨e',Ev.step (f:=fun k=>spec_SyncDisk.l0 k ((i+1:Nat):Int) p q (e.set q[i].f0.toNat q[i].f1)) (fun k=> ?_) e1,Ev.step (f:=fun k=>impl_SyncDisk.l0 k q (q.length:Int) ((i+1:Nat):Int) p q (e.set q[i].f0.toNat q[i].f1) q) (fun k=> ?_) e2,e3⟩
   ·rw [spec_SyncDisk.l0,if_pos zq9,if_pos zq9,rd135 _ _ hlt,w1,w2]
    unfold spec_l01In.f
    rw [if_pos (show q[i].f0≥0 from hx.1),Option.bind_some,if_pos (by simpa using hx.2),if_pos hx.1,if_pos zq9]
   ·rw [impl_SyncDisk.l0,if_pos zq9,if_pos zq9,if_pos zq9,rd135 _ _ hlt,w2]
    unfold impl_isPage.f impl_in.f
    rw [w1,if_pos (show q[i].f0≥0 from hx.1),Option.bind_some,Option.bind_some,if_pos (by simpa using hx.2),if_pos hx.1,if_pos zq9]
  ·obtain ⟨e',e1,e2,e3⟩:=ih (i+1) e zq9 he
   refine ⟨e',Ev.step (f:=fun k=>spec_SyncDisk.l0 k ((i+1:Nat):Int) p q e) (fun k=> ?_) e1,Ev.step (f:=fun k=>impl_SyncDisk.l0 k q (q.length:Int) ((i+1:Nat):Int) p q e q) (fun k=> ?_) e2,e3⟩
   ·rw [spec_SyncDisk.l0,if_pos zq9,if_pos zq9,rd135 _ _ hlt,w1,w2]
    unfold spec_l01In.f
    by_cases h0:q[i].f0≥0
    ·rw [if_pos h0,Option.bind_some,if_neg zq117]
    ·rw [if_neg h0,Option.bind_some,if_neg zq31]
   ·rw [impl_SyncDisk.l0,if_pos zq9,if_pos zq9,if_pos zq9,rd135 _ _ hlt,w2]
    unfold impl_isPage.f impl_in.f
    rw [w1]
    by_cases h0:q[i].f0≥0
    ·rw [if_pos h0,Option.bind_some,Option.bind_some,if_neg zq117]
    ·rw [if_neg h0,Option.bind_some,Option.bind_some,if_neg zq31]
theorem cloneD_id (p:List ByteArray) (q:List S110) (hp:p.length≤2000000) (hq:q.length≤2000000):impl_cloneDisk.f p q=some (p,q):=by
 unfold impl_cloneDisk.f slices_Clone_string_string.f impl_Put.f
 rw [if_pos zq9,if_pos zq9]
 rfl
theorem sync_both (p:List ByteArray) (q:List S110) (hp:p.length≤2000000) (hq:q.length≤2000000):∃e,Ev (fun k=>spec_SyncDisk.f k p q) (e,[])∧Ev (fun k=>impl_SyncDisk.f k p q) (e,[])∧e.length=p.length:=by
 obtain ⟨e,e1,e2,e3⟩:=sync_go p q hp hq q.length 0 p zq9 rfl
 refine ⟨e,Ev.congr (fun k=> ?_) e1,Ev.congr (fun k=> ?_) e2,e3⟩
 ·unfold spec_SyncDisk.f
  simp only [Option.bind_some,List.nil_append,List.length_nil]
  rw [if_pos zq9]
  rfl
 ·unfold impl_SyncDisk.f
  rw [cloneD_id p q hp hq]
  rfl
theorem cloneI_ev (d:((List ByteArray×List S110)×S40×List S135×(S40×(List ByteArray×List S110×Int×List Int×List Int×List Int)×Int)×Bool×Bool)) (h:OKs d):EvP (fun k=>CloneImpl k d):=by
 obtain ⟨⟨a0,a1⟩,x,rs,⟨y,⟨l0,l1,l2,l3,l4,l5⟩,n⟩,bw,bf⟩:=d
 obtain ⟨⟨b0,b1⟩,h2,h3,h4,⟨b5,b6⟩,h6,h7,h8⟩:=h
 refine ((EvP.now (cloneD_id a0 a1 (z5a b0 zq31) (z5a b1 zq31))).and ((EvP.of (cloneM_ev x h2)).and ((cloneR_ev rs h3.2).and ((EvP.of (cloneM_ev y h4)).and (EvP.now ⟨⟨⟨z5a b5 zq31,z5a b6 zq31⟩,z5a h6 zq31,z5a h7 zq31,z5a h8 zq31⟩,z5a h3.1 zq31⟩))))).imp (fun k h=>h)
theorem smallM {x:S40} (h:OKn x.f3):zua x:=⟨z5a h.1 zq31,fun f hf=>z5a (h.2 f hf) zq31⟩
theorem cloneS_ev (d:((List ByteArray×List S110)×S40×List S135×(S40×(List ByteArray×List S110×Int×List Int×List Int×List Int)×Int)×Bool×Bool)) (h:OKs d) (k:Nat):CloneSpec k d:=by
 obtain ⟨⟨a0,a1⟩,x,rs,⟨y,⟨l0,l1,l2,l3,l4,l5⟩,n⟩,bw,bf⟩:=d
 obtain ⟨⟨b0,b1⟩,h2,h3,h4,⟨b5,b6⟩,h6,h7,h8⟩:=h
 exact ⟨⟨z5a b0 zq31,z5a b1 zq31⟩,smallM h2,fun r hr=>smallM (h3.2 r hr),smallM h4,⟨⟨z5a b5 zq31,z5a b6 zq31⟩,z5a h6 zq31,z5a h7 zq31,z5a h8 zq31⟩,z5a h3.1 zq31⟩
theorem stop_ev (d:((List ByteArray×List S110)×S40×List S135×(S40×(List ByteArray×List S110×Int×List Int×List Int×List Int)×Int)×Bool×Bool)) (h:OKs d):∃z c,EvP (fun k=>SpecStop k d z c)∧EvP (fun k=>ImplStop k d z c)∧OKs z:=by
 have hI:=cloneI_ev d h
 have hS:=cloneS_ev d h
 by_cases hw:d.2.2.2.2.1=true
 ·obtain ⟨e,e1,e2,e3⟩:=sync_both d.2.2.2.1.2.1.1 d.2.2.2.1.2.1.2.1 (z5a h.2.2.2.2.1.1 zq31) (z5a h.2.2.2.2.1.2 zq31)
  refine ⟨_,0,(EvP.of e1).imp (fun k hk=>⟨hS k,.inr ⟨hw,rfl,e,[],hk,rfl⟩⟩),((EvP.of e2).and hI).imp (fun k hk=>⟨hk.2,.inr ⟨hw,rfl,e,[],hk.1,rfl⟩⟩),?_⟩
  refine ⟨⟨by rw [show e.length=_ from e3];exact h.2.2.2.2.1.1,z0b _⟩,h.2.1,h.2.2.1,⟨z0b _,fun s hs=>by cases hs⟩,⟨z0b _,z0b _⟩,z0b _,z0b _,z0b _⟩
 ·have hw2:d.2.2.2.2.1=false:=by cases h:d.2.2.2.2.1<;>simp_all
  exact ⟨d,2,EvP.now (⟨hS 0,.inl ⟨hw2,rfl,rfl⟩⟩:SpecStop 0 d d 2)|>.imp (fun k _=>⟨hS k,.inl ⟨hw2,rfl,rfl⟩⟩),hI.imp (fun k hk=>⟨hk,.inl ⟨hw2,rfl,rfl⟩⟩),h⟩
end Go.Proofs.YtonhdiemjgdcnaaGreat.PFnExactGivePage
namespace Go.Proofs.YtonhdiemjgdcnaaGreat.PFnExactGivePage
open Go.RowKit Go.Proofs.YtonhdiemjgdcnaaGreatW.PrintWords Go.Proofs.YtonhdiemjgdcnaaGreatW.PrintLast Go.Proofs.YtonhdiemjgdcnaaGreatW.PrintMore
attribute [local go_sem] zma zla zwa zxa zba zca zoa zna
theorem diskOkI_d (k:Nat) (z:(List ByteArray×List S110)) (b:Bool) {cs:List Value} (w:World) (h:kDisk.K w z cs) (hf:impl_DiskOk.f z.1 z.2=some b):Calls Tryz.prog 103 #[.agg cs.toArray] w fun e w'=>e= .returned (.bool b)∧Below w.heap.size w w':=by
 obtain ⟨l0,l1⟩:=z
 obtain ⟨A0,c0,A1,c1,rfl,m0,r0,m1,r1⟩:=zza h
 exact impl_DiskOk.calls A0 c0 l0 A1 c1 l1 b w r0 m0 r1 m1 hf
theorem writeI_no (k:Nat) (l0:List ByteArray) (l1:List S110) (a:Int) (t:ByteArray) {cs:List Value} (w:World) (h:kDisk.K w (l0,l1) cs) (fl:l0.length≤2000000∧l1.length≤2000000) (fd:impl_DiskOk.f l0 l1=some false):
  Calls Tryz.prog 95 #[.agg cs.toArray,.int .i64 a,.string t] w fun e w'=>∃ds:List Value,e= .returned (.tuple #[.agg ds.toArray,.bool false])∧kDisk.M w' w.heap.size (Fr w w') (l0,l1) ds∧Below w.heap.size w w':=by
 have KS0:=h
 obtain ⟨u0,u1,rfl,hU0,hU1⟩:=h
 have hV0:=hU0
 have hV1:=hU1
 obtain ⟨B0,d0,rfl,-,-⟩:=hU0
 obtain ⟨B1,d1,rfl,-,-⟩:=hU1
 obtain ⟨cs,hcs⟩:∃cs:List Value,cs=[.slice B0 l0.length d0]++[.slice B1 l1.length d1]:=⟨_,rfl⟩
 rw [←hcs] at KS0 ⊢
 have KS:=zz KS0
 have Lcs:=zz (show cs.length=2 from Kd.K_len _ KS0)
 have FL:=zz fl;have FD:=zz fd;clear KS0 hV0 hV1 hcs fl fd
 have O:=zz (z3a w.heap.size)
 have E:=zz (Env.start w)
 go_enter Tryz.func95,Tryz.ntmps95
 go_wp2_with (first|((with_reducible refine zd (N:=9) rfl ?_);replace O:=zz (And.intro E.1.le O.1);replace E:=zz (E.1.alloc cs 37 (g:=w.heap.size) rfl);replace E:=zz (E.1.alloc [.slice none 0 0,.slice none 0 0] 37 (g:=(w.heap.size+1)) zq38);refine zf rfl 37 _ rfl w.heap.size 0 [] cs [] _ rfl (E.1.box 1 rfl) zq6 (rfl) Tryz.underlying37 rfl zq59 ?_))
 ((with_reducible refine (zkc (l0,l1) _ (E.1.K KS.1) FL.1).mono ?_);rintro e w5 ⟨d2,rfl,M0,hb⟩)
 have q:=E.1.made4 O.1 2 rfl M0 hb;clear O E M0 hb;obtain ⟨n3_,m4_,L0,Q0,O,E⟩:=q
 go_wp2_with (first|((with_reducible refine zm (t:=37) (p:=8) rfl ?_);replace O:=zz (And.intro E.1.le O.1);replace E:=zz (E.1.alloc [.slice none 0 0,.slice none 0 0] 37 (g:=w5.heap.size) rfl);refine zn rfl 37 _ _ rfl rfl w5.heap.size 0 d2 [] [.slice none 0 0,.slice none 0 0] [] rfl rfl (E.1.box 0 rfl) zq6 (rfl) (zq40 L0.1) (zq24 L0.1) Q0.1 ?_;intro W5_ hp hn;replace E:=E.1.put2 0 hp hn zq7;clear hp hn)|((with_reducible refine zd (N:=11) rfl ?_);refine zf rfl 37 _ rfl w.heap.size 0 [] cs [] _ rfl (E.1.box 3 rfl) zq6 (rfl) Tryz.underlying37 rfl zq59 ?_))
 ((with_reducible refine (diskOkI_d k (l0,l1) false _ (E.1.K KS.1) FD.1).mono ?_);rintro e w6_ ⟨rfl,hb⟩)
 replace E:=zz (E.1.call hb);clear hb
 go_wp2_with (first|((with_reducible refine zd (N:=31) rfl ?_);refine zf rfl 37 _ rfl w5.heap.size 0 [] d2 [] _ rfl (E.1.box 0 rfl) zq6 (rfl) Tryz.underlying37 rfl (zq24 L0.1) ?_)|((with_reducible refine zm (t:=37) (p:=6) rfl ?_);refine zn rfl 37 _ _ rfl rfl (w.heap.size+1) 0 d2 [] [.slice none 0 0,.slice none 0 0] [] rfl rfl (E.1.box 2 rfl) zq6 (rfl) (zq40 L0.1) (zq24 L0.1) Q0.1 ?_;intro W7_ hp hn;replace E:=E.1.put2 2 hp hn zq7;clear hp hn))
 have BX:=zz (show _=some (Obj.cells (d2:List Value).toArray 37 (0,0)) from by first|exact (E.1.box 2 rfl)|simpa only [aA,aN,aL] using (E.1.box 2 rfl))
 refine bodyPost_ret (zG (rs:=[.cell 6 37,.tmp 7]) rfl zq38 (.cell (w.heap.size+1) 37 _ _ _ rfl BX.1 Tryz.underlying37 rfl (zq124 L0.1) (.tmp .nil))) rfl ?_
 exact ⟨_,rfl,(zGb (d:=kDisk) (E.1.made 1 rfl) (z3a _)),E.1.below⟩
theorem diskOkS_d (k:Nat) (z:(List ByteArray×List S110)) (b:Bool) {cs:List Value} (w:World) (h:kDisk.K w z cs) (hf:spec_DiskOk.f k z.1 z.2=some b):Calls Tryz.prog 83 #[.agg cs.toArray] w fun e w'=>e= .returned (.bool b)∧Below w.heap.size w w':=by
 obtain ⟨l0,l1⟩:=z
 obtain ⟨A0,c0,A1,c1,rfl,m0,r0,m1,r1⟩:=zza h
 exact spec_DiskOk.calls k A0 c0 l0 A1 c1 l1 b w r0 m0 r1 m1 hf
theorem writeS_no (k:Nat) (l0:List ByteArray) (l1:List S110) (a:Int) (t:ByteArray) {cs:List Value} (w:World) (h:kDisk.K w (l0,l1) cs) (fl:l0.length≤2000000∧l1.length≤2000000) (fd:spec_DiskOk.f k l0 l1=some false):
  Calls Tryz.prog 38 #[.agg cs.toArray,.int .i64 a,.string t] w fun e w'=>∃ds:List Value,e= .returned (.tuple #[.agg ds.toArray,.bool false])∧kDisk.M w' w.heap.size (Fr w w') (l0,l1) ds∧Below w.heap.size w w':=by
 have KS0:=h
 obtain ⟨u0,u1,rfl,hU0,hU1⟩:=h
 have hV0:=hU0
 have hV1:=hU1
 obtain ⟨B0,d0,rfl,-,-⟩:=hU0
 obtain ⟨B1,d1,rfl,-,-⟩:=hU1
 obtain ⟨cs,hcs⟩:∃cs:List Value,cs=[.slice B0 l0.length d0]++[.slice B1 l1.length d1]:=⟨_,rfl⟩
 rw [←hcs] at KS0 ⊢
 have KS:=zz KS0
 have Lcs:=zz (show cs.length=2 from Kd.K_len _ KS0)
 have FL:=zz fl;have FD:=zz fd;clear KS0 hV0 hV1 hcs fl fd
 have O:=zz (z3a w.heap.size)
 have E:=zz (Env.start w)
 go_enter Tryz.func38,Tryz.ntmps38
 go_wp2_with (first|((with_reducible refine zd (N:=9) rfl ?_);replace O:=zz (And.intro E.1.le O.1);replace E:=zz (E.1.alloc cs 37 (g:=w.heap.size) rfl);replace E:=zz (E.1.alloc [.slice none 0 0,.slice none 0 0] 37 (g:=(w.heap.size+1)) zq38);refine zf rfl 37 _ rfl w.heap.size 0 [] cs [] _ rfl (E.1.box 1 rfl) zq6 (rfl) Tryz.underlying37 rfl zq59 ?_))
 ((with_reducible refine (zWb l0 l1 _ (E.1.K KS.1) FL.1).mono ?_);rintro e w5 ⟨d2,rfl,M0,hb⟩)
 have q:=E.1.made4 O.1 2 rfl M0 hb;clear O E M0 hb;obtain ⟨n3_,m4_,L0,Q0,O,E⟩:=q
 go_wp2_with (first|((with_reducible refine zm (t:=37) (p:=8) rfl ?_);replace O:=zz (And.intro E.1.le O.1);replace E:=zz (E.1.alloc [.slice none 0 0,.slice none 0 0] 37 (g:=w5.heap.size) rfl);refine zn rfl 37 _ _ rfl rfl w5.heap.size 0 d2 [] [.slice none 0 0,.slice none 0 0] [] rfl rfl (E.1.box 0 rfl) zq6 (rfl) (zq40 L0.1) (zq24 L0.1) Q0.1 ?_;intro W5_ hp hn;replace E:=E.1.put2 0 hp hn zq7;clear hp hn)|((with_reducible refine zd (N:=11) rfl ?_);refine zf rfl 37 _ rfl w.heap.size 0 [] cs [] _ rfl (E.1.box 3 rfl) zq6 (rfl) Tryz.underlying37 rfl zq59 ?_))
 ((with_reducible refine (diskOkS_d k (l0,l1) false _ (E.1.K KS.1) FD.1).mono ?_);rintro e w6_ ⟨rfl,hb⟩)
 replace E:=zz (E.1.call hb);clear hb
 go_wp2_with (first|((with_reducible refine zd (N:=34) rfl ?_);refine zf rfl 37 _ rfl w5.heap.size 0 [] d2 [] _ rfl (E.1.box 0 rfl) zq6 (rfl) Tryz.underlying37 rfl (zq24 L0.1) ?_)|((with_reducible refine zm (t:=37) (p:=6) rfl ?_);refine zn rfl 37 _ _ rfl rfl (w.heap.size+1) 0 d2 [] [.slice none 0 0,.slice none 0 0] [] rfl rfl (E.1.box 2 rfl) zq6 (rfl) (zq40 L0.1) (zq24 L0.1) Q0.1 ?_;intro W7_ hp hn;replace E:=E.1.put2 2 hp hn zq7;clear hp hn))
 have BX:=zz (show _=some (Obj.cells (d2:List Value).toArray 37 (0,0)) from by first|exact (E.1.box 2 rfl)|simpa only [aA,aN,aL] using (E.1.box 2 rfl))
 refine bodyPost_ret (zG (rs:=[.cell 6 37,.tmp 7]) rfl zq38 (.cell (w.heap.size+1) 37 _ _ _ rfl BX.1 Tryz.underlying37 rfl (zq124 L0.1) (.tmp .nil))) rfl ?_
 exact ⟨_,rfl,(zGb (d:=kDisk) (E.1.made 1 rfl) (z3a _)),E.1.below⟩
theorem impl_WritePage.callsT (A0:Option Addr) (c0:Nat) (l2:List ByteArray) (A1:Option Addr) (c1:Nat) (l3:List (S110)) (a1:Int) (a2:ByteArray) (r1:List ByteArray) (r2:List (S110)) (w:World) (r0:Kd.C Kd.string w A0 l2.length l2) (h0:l2.length≤c0) (r3:Kd.C k110 w A1 l3.length l3) (h2:l3.length≤c1) (h:impl_WritePage.f l2 l3 a1 a2=some (r1,r2,true)):
  Calls Tryz.prog 95 #[.agg #[.slice A0 l2.length c0,.slice A1 l3.length c1],.int .i64 a1,.string a2] w fun e w'=>∃v0 v1:Value,e= .returned (.tuple #[.agg #[v0,v1],.bool true])∧Kd.R Kd.string 9 w' w.heap.size (fun _=>True) v0 r1∧Kd.R k110 110 w' w.heap.size (fun _=>True) v1 r2∧Below w.heap.size w w':=by
 have hu32:=Tryz.underlying37
 have hu135:=Tryz.underlying110
 have R0:=zz r0
 have C0:=zz h0
 clear r0 h0
 have R1:=zz r3
 have C1:=zz h2
 clear r3 h2
 have HB:=zz (z1a w.heap.size w)
 have H:((impl_cloneDisk.f l2 l3).bind fun b0=>((impl_DiskOk.f l2 l3).bind fun t0=>(if t0=true then ((impl_isPage.f l2 l3 a1).bind fun t1=>(if t1=true then (if (a2.size:Int)>240 then (some (b0.1,b0.2,false)) else (if (l3.length:Int)≥200 then (some (b0.1,b0.2,false)) else (if b0.2.length<5864062014805 then (some (b0.1,(b0.2++[(⟨a1,a2⟩:S110)]),true)) else (none)))) else (some (b0.1,b0.2,false)))) else (some (b0.1,b0.2,false)))))=some (r1,r2,true):=h
 clear h
 replace H:=z2a H
 obtain ⟨⟨t2,t3⟩,A2,H⟩:=H
 replace H:((impl_DiskOk.f l2 l3).bind fun t0=>(if t0=true then ((impl_isPage.f l2 l3 a1).bind fun t1=>(if t1=true then (if (a2.size:Int)>240 then (some (t2,t3,false)) else (if (l3.length:Int)≥200 then (some (t2,t3,false)) else (if t3.length<5864062014805 then (some (t2,(t3++[(⟨a1,a2⟩:S110)]),true)) else (none)))) else (some (t2,t3,false)))) else (some (t2,t3,false))))=some (r1,r2,true):=H
 have A4:=zz A2
 clear A2
 replace H:=z2a H
 obtain ⟨t0,A6,H⟩:=H
 replace H:(if t0=true then ((impl_isPage.f l2 l3 a1).bind fun t1=>(if t1=true then (if (a2.size:Int)>240 then (some (t2,t3,false)) else (if (l3.length:Int)≥200 then (some (t2,t3,false)) else (if t3.length<5864062014805 then (some (t2,(t3++[(⟨a1,a2⟩:S110)]),true)) else (none)))) else (some (t2,t3,false)))) else (some (t2,t3,false)))=some (r1,r2,true):=H
 have A5:=zz A6
 clear A6
 by_cases c6:t0=true
 ·subst c6
  rw [if_pos rfl] at H
  replace H:=z2a H
  obtain ⟨t1,A8,H⟩:=H
  replace H:(if t1=true then (if (a2.size:Int)>240 then (some (t2,t3,false)) else (if (l3.length:Int)≥200 then (some (t2,t3,false)) else (if t3.length<5864062014805 then (some (t2,(t3++[(⟨a1,a2⟩:S110)]),true)) else (none)))) else (some (t2,t3,false)))=some (r1,r2,true):=H
  have A7:=zz A8
  clear A8
  by_cases c8:t1=true
  ·subst c8
   rw [if_pos rfl] at H
   by_cases c9:(a2.size:Int)>240
   ·exact zq203
   ·rw [if_neg c9] at H
    have c9b0:decide (240<(a2.size:Int))=false:=z7 c9
    have c9b1:decide (240<a2.size)=false:=z7 zq9
    clear c9
    by_cases c11:(l3.length:Int)≥200
    ·rw [if_pos c11] at H
     have c12:decide (200≤(l3.length:Int))=true:=z6 c11
     have c13:decide (200≤l3.length)=true:=z6 zq9
     clear c11
     exact zq162
    ·rw [if_neg c11] at H
     have c12:decide (200≤(l3.length:Int))=false:=z7 c11
     have c13:decide (200≤l3.length)=false:=z7 zq9
     clear c11
     by_cases c14:t3.length<5864062014805
     ·rw [if_pos c14] at H
      have LMc46:=zz c14
      clear c14
      obtain ⟨y0,i0⟩:∃y_:List (S110),y_=(t3++[(⟨a1,a2⟩:S110)]):=⟨_,rfl⟩
      replace H:(some (t2,y0,true))=some (r1,r2,true):=zq20
      have Y0:=zz i0
      clear i0
      simp only [Option.some.injEq,Prod.mk.injEq] at H
      obtain ⟨rfl,rfl,-⟩:=H
      go_enter Tryz.func95,Tryz.ntmps95
      go_wp2_with (first|((with_reducible refine zd (N:=3) rfl ?_);(try (refine zJa zq22 ?_;dsimp only));refine zx rfl (N:=3) rfl (cs:= #[.slice A0 l2.length c0,.slice A1 l3.length c1]) (t:=37) zq27 ?_;intro g0 hg w47 hbox hb;have B0:=zz hbox;have G0:=zz (zq15:w.heap.size≤g0);replace HB:=zz (ze zq0 hb);clear hb hbox hg)|((with_reducible refine zd (N:=6) rfl ?_);(try (refine zJa zq22 ?_;dsimp only));refine zx rfl (N:=6) rfl (cs:= #[.slice none 0 0,.slice none 0 0]) (t:=37) zq27 ?_;intro g1 hg w48 hbox hb;have B2:=zz hbox;have G1:=zz (zq25 G0.1:w.heap.size≤g1);have N0:=zz (zq28 B0.1:g0≠g1);have N1:=zz (zq29 B0.1:g1≠g0);replace B0:=zz (zg (g:=g0) (o:= .cells #[.slice A0 l2.length c0,.slice A1 l3.length c1] 37 (0,0)) (zq1 B0.1) hb);replace HB:=zz (ze (zq4 G0.1) hb);clear hb hbox hg;have hnb49:=N0.1;have hnc49:=N1.1;obtain ⟨_,_,_,_⟩:=zV B0.1)|((with_reducible refine zr (f:=46) rfl ?_);refine zN (some 10) rfl rfl Tryz.func46 zq13 rfl #[.agg #[.slice A0 l2.length c0,.slice A1 l3.length c1]] rfl zq8 ?_;(with_reducible refine (impl_cloneDisk.calls _ _ l2 _ _ l3 t2 t3 _ ?side1 ?side2 ?side3 ?side4 A4.1).mono ?_);(case side1=>repeat (first|exact (Kd.C_below R0.1 HB.1)|(with_reducible refine Kd.C_alloc ?_ _)|(with_reducible refine Kd.C_drewN ?_ _)|(with_reducible refine Kd.C_drew ?_)));(case side2=>exact C0.1);(case side3=>repeat (first|exact (Kd.C_below R1.1 HB.1)|(with_reducible refine Kd.C_alloc ?_ _)|(with_reducible refine Kd.C_drewN ?_ _)|(with_reducible refine Kd.C_drew ?_)));(case side4=>exact C1.1);rintro e w51 ⟨v448,v451,rfl,ho0,ho1,hb⟩;refine ⟨_,rfl,?_⟩;(first|have rs_v448:=zga (P:=Tryz.prog) ho0|have rs_v448:=zga (P:=Tryz.prog) (Kd.S_R ho0)|skip);(first|have rs_v451:=zga (P:=Tryz.prog) ho1|have rs_v451:=zga (P:=Tryz.prog) (Kd.S_R ho1)|skip);have O0:=zz (Kd.R_lower ho0 (zD (zq5 G0.1 G1.1)));have O1:=zz (Kd.R_lower ho1 (zD (zq5 G0.1 G1.1)));replace B0:=zz (zg (g:=g0) (o:= .cells #[.slice A0 l2.length c0,.slice A1 l3.length c1] 37 (0,0)) (zq1 B0.1) hb);replace B2:=zz (zg (g:=g1) (o:= .cells #[.slice none 0 0,.slice none 0 0] 37 (0,0)) (zq1 B2.1) hb);replace HB:=zz (ze (zq5 G0.1 G1.1) hb);(try clear hb);(try clear hb2);(try clear hk);(try clear hi);(try clear ho0);(try clear ho1))|((with_reducible refine zd (N:=8) rfl ?_);(try (refine zJa zq22 ?_;dsimp only));refine zx rfl (N:=8) rfl (cs:= #[.slice none 0 0,.slice none 0 0]) (t:=37) zq27 ?_;intro g2 hg w52 hbox hb;have B4:=zz hbox;have G2:=zz (zq35 G0.1 G1.1:w.heap.size≤g2);have N2:=zz (zq28 B0.1:g0≠g2);have N3:=zz (zq29 B0.1:g2≠g0);have N4:=zz (zq43 B2.1:g1≠g2);have N5:=zz (zq44 B2.1:g2≠g1);replace O0:=zz (Kd.R_below (zq17 O0.1) hb);replace O1:=zz (Kd.R_below (zq17 O1.1) hb);replace B0:=zz (zg (g:=g0) (o:= .cells #[.slice A0 l2.length c0,.slice A1 l3.length c1] 37 (0,0)) (zq1 B0.1) hb);replace B2:=zz (zg (g:=g1) (o:= .cells #[.slice none 0 0,.slice none 0 0] 37 (0,0)) (zq1 B2.1) hb);replace HB:=zz (ze (zq5 G0.1 G1.1) hb);clear hb hbox hg;obtain ⟨A9,c15,e0⟩:=Kd.R_slice O0.1;subst e0;have hnb54:=N3.1;have hnc54:=N2.1;have hnb55:=N5.1;have hnc55:=N4.1;obtain ⟨_,_,_,_⟩:=zV B4.1;obtain ⟨A10,c16,e1⟩:=Kd.R_slice O1.1;subst e1;obtain ⟨_,_,_,_⟩:=zV B0.1)|((with_reducible refine zr (f:=103) rfl ?_);refine zN (some 12) rfl rfl Tryz.func103 zq13 rfl #[.agg #[.slice A0 l2.length c0,.slice A1 l3.length c1]] rfl zq8 ?_;(with_reducible refine (impl_DiskOk.calls _ _ l2 _ _ l3 true _ ?side1 ?side2 ?side3 ?side4 A5.1).mono ?_);(case side1=>exact Kd.C_below R0.1 (zq11 G0.1 G1.1 G2.1));(case side2=>exact C0.1);(case side3=>exact Kd.C_below R1.1 (zq11 G0.1 G1.1 G2.1));(case side4=>exact C1.1);rintro e w59 ⟨rfl,hb⟩;refine ⟨_,rfl,?_⟩;replace O0:=zz (Kd.R_below (zq48 O0.1 B4.1) hb);replace O1:=zz (Kd.R_below (zq48 O1.1 B4.1) hb);replace B0:=zz (zg (g:=g0) (o:= .cells #[.slice A0 l2.length c0,.slice A1 l3.length c1] 37 (0,0)) (zq23 N2.1 B0.1) hb);replace B2:=zz (zg (g:=g1) (o:= .cells #[.slice none 0 0,.slice none 0 0] 37 (0,0)) (zq23 N4.1 B2.1) hb);replace B4:=zz (zg (g:=g2) (o:= .cells #[.slice A9 t2.length c15,.slice A10 t3.length c16] 37 (0,0)) (zq60 B4.1) hb);replace HB:=zz (ze (zq11 G0.1 G1.1 G2.1) hb);(try clear hb);(try clear hb2);(try clear hk);(try clear hi);obtain ⟨_,_,_,_⟩:=zV B0.1)|(go_at_call 86;(with_reducible refine (impl_isPage.calls _ _ l2 _ _ l3 a1 true _ ?side1 ?side2 ?side3 ?side4 A7.1).mono ?_);(case side1=>repeat (first|exact (Kd.C_below R0.1 HB.1)|(with_reducible refine Kd.C_alloc ?_ _)|(with_reducible refine Kd.C_drewN ?_ _)|(with_reducible refine Kd.C_drew ?_)));(case side2=>exact C0.1);(case side3=>repeat (first|exact (Kd.C_below R1.1 HB.1)|(with_reducible refine Kd.C_alloc ?_ _)|(with_reducible refine Kd.C_drewN ?_ _)|(with_reducible refine Kd.C_drew ?_)));(case side4=>exact C1.1);rintro e w61 ⟨rfl,hb⟩;replace O0:=zz (Kd.R_below (zq17 O0.1) hb);replace O1:=zz (Kd.R_below (zq17 O1.1) hb);replace B0:=zz (zg (g:=g0) (o:= .cells #[.slice A0 l2.length c0,.slice A1 l3.length c1] 37 (0,0)) (zq1 B0.1) hb);replace B2:=zz (zg (g:=g1) (o:= .cells #[.slice none 0 0,.slice none 0 0] 37 (0,0)) (zq1 B2.1) hb);replace B4:=zz (zg (g:=g2) (o:= .cells #[.slice A9 t2.length c15,.slice A10 t3.length c16] 37 (0,0)) (zq1 B4.1) hb);replace HB:=zz (ze (zq11 G0.1 G1.1 G2.1) hb);(try clear hb);(try clear hb2);(try clear hk);(try clear hi);obtain ⟨_,_,_,_⟩:=zV B0.1;obtain ⟨_,_,_,_⟩:=zV B4.1)|((with_reducible refine zea (b:= .append) (xs:= #[.tmp 33,.tmp 37]) rfl ?_);(try (refine zJa zq22 ?_;dsimp only));at_builtin;refine Kd.R_append k110 (w0:=w) w.heap.size rfl (.tmp 33) (.tmp 37) 35 110 (.agg #[(.int .i64 0),(.string ⟨#[]⟩)]) 24 rfl Tryz.underlying35 info110 rfl zq31 zq9 (.slice A10 t3.length c16) t3 (⟨a1,a2⟩:S110) [.int .i64 a1,.string a2] (fun _=>True) (fun _=>False) rfl rfl ?aP (fun _ hk=>hk.elim) ?aF ?aO ?aB ?aS ?aL ?_;(case aP=>exact k110_mkM _ _ _ (⟨a1,a2⟩:S110));(case aB=>exact (zq11 G0.1 G1.1 G2.1));(case aF=>exact (fun _ _=>trivial));(case aO=>exact (zq17 O1.1));(case aS=>exact (zD (zq11 G0.1 G1.1 G2.1)));(case aL=>have:=LMc46.1;omega);intro v457 w64 ho hb hg hat;rw [←Y0.1] at ho;have O2:=zz ho;replace B0:=zz (zK (g:=g0) (o:= .cells #[.slice A0 l2.length c0,.slice A1 l3.length c1] 37 (0,0)) (zq1 B0.1) hg (Kd.R_ne O1.1 B0.1 zq31));replace B2:=zz (zK (g:=g1) (o:= .cells #[.slice none 0 0,.slice none 0 0] 37 (0,0)) (zq1 B2.1) hg (Kd.R_ne O1.1 B2.1 zq31));replace O0:=zz (Kd.R_over' (zq17 O0.1) (Kd.R_typed (zq17 O1.1)) zq31 hg);replace B4:=zz (zK (g:=g2) (o:= .cells #[.slice A9 t2.length c15,.slice A10 t3.length c16] 37 (0,0)) (zq1 B4.1) hg (Kd.R_ne O1.1 B4.1 zq31));replace HB:=zz hb;clear O1;clear ho hb hg hat;obtain ⟨A11,c17,e2⟩:=Kd.R_slice O2.1;subst e2;obtain ⟨_,_,_,_⟩:=zV B4.1;obtain ⟨_,_,_,_⟩:=zV B2.1))
      exact zq185
     ·rw [if_neg c14] at H
      exact absurd H zq38
  ·replace c8:=Bool.eq_false_iff.mpr c8
   subst c8
   exact zq208
 ·replace c6:=Bool.eq_false_iff.mpr c6
  subst c6
  exact zq208
theorem writeI_t (k:Nat) (z z':(List ByteArray×List S110)) (a:Int) (t:ByteArray) {cs:List Value} (w:World) (h:kDisk.K w z cs) (hf:impl_WritePage.f z.1 z.2 a t=some (z'.1,z'.2,true)):
  Calls Tryz.prog 95 #[.agg cs.toArray,.int .i64 a,.string t] w fun e w'=>∃ds:List Value,e= .returned (.tuple #[.agg ds.toArray,.bool true])∧kDisk.M w' w.heap.size (Fr w w') z' ds∧Below w.heap.size w w':=by
 obtain ⟨l0,l1⟩:=z
 obtain ⟨q0,q1⟩:=z'
 obtain ⟨A0,c0,A1,c1,rfl,m0,r0,m1,r1⟩:=zza h
 refine (impl_WritePage.callsT A0 c0 l0 A1 c1 l1 a t q0 q1 w r0 m0 r1 m1 hf).mono ?_
 rintro e w' ⟨v0,v1,rfl,R0,R1,hb⟩
 have T0:=Own.R_tightB rfl R0
 have T1:=Own.R_tightB rfl R1
 exact ⟨[v0,v1],rfl,zub T0.1 T1.1 T0.2.1 T1.2.1 (Own.types_ne T0.2.2 T1.2.2 zq31),hb⟩
theorem spec_WritePage.callsT (k:Nat) (A0:Option Addr) (c0:Nat) (l2:List ByteArray) (A1:Option Addr) (c1:Nat) (l3:List (S110)) (a1:Int) (a2:ByteArray) (r1:List ByteArray) (r2:List (S110)) (w:World) (r0:Kd.C Kd.string w A0 l2.length l2) (h0:l2.length≤c0) (r3:Kd.C k110 w A1 l3.length l3) (h2:l3.length≤c1) (h:spec_WritePage.f k l2 l3 a1 a2=some (r1,r2,true)):
  Calls Tryz.prog 38 #[.agg #[.slice A0 l2.length c0,.slice A1 l3.length c1],.int .i64 a1,.string a2] w fun e w'=>∃v0 v1:Value,e= .returned (.tuple #[.agg #[v0,v1],.bool true])∧Kd.R Kd.string 9 w' w.heap.size (fun _=>True) v0 r1∧Kd.R k110 110 w' w.heap.size (fun _=>True) v1 r2∧Below w.heap.size w w':=by
 have hu32:=Tryz.underlying37
 have hu135:=Tryz.underlying110
 have R0:=zz r0
 have C0:=zz h0
 clear r0 h0
 have R1:=zz r3
 have C1:=zz h2
 clear r3 h2
 have HB:=zz (z1a w.heap.size w)
 have H:((spec_l03Copy.f l2 l3).bind fun b0=>((spec_DiskOk.f k l2 l3).bind fun t0=>(if t0=true then ((spec_l01In.f a1 0 (wrap64 ((l2.length:Int)-1))).bind fun t1=>(if t1=true then (if (a2.size:Int)>240 then (some (b0.1,b0.2,false)) else (if (l3.length:Int)=200 then (some (b0.1,b0.2,false)) else (if b0.2.length<5864062014805 then (some (b0.1,(b0.2++[(⟨a1,a2⟩:S110)]),true)) else (none)))) else (some (b0.1,b0.2,false)))) else (some (b0.1,b0.2,false)))))=some (r1,r2,true):=h
 clear h
 replace H:=z2a H
 obtain ⟨⟨t2,t3⟩,A2,H⟩:=H
 replace H:((spec_DiskOk.f k l2 l3).bind fun t0=>(if t0=true then ((spec_l01In.f a1 0 (wrap64 ((l2.length:Int)-1))).bind fun t1=>(if t1=true then (if (a2.size:Int)>240 then (some (t2,t3,false)) else (if (l3.length:Int)=200 then (some (t2,t3,false)) else (if t3.length<5864062014805 then (some (t2,(t3++[(⟨a1,a2⟩:S110)]),true)) else (none)))) else (some (t2,t3,false)))) else (some (t2,t3,false))))=some (r1,r2,true):=H
 have A4:=zz A2
 clear A2
 replace H:=z2a H
 obtain ⟨t0,A6,H⟩:=H
 replace H:(if t0=true then ((spec_l01In.f a1 0 (wrap64 ((l2.length:Int)-1))).bind fun t1=>(if t1=true then (if (a2.size:Int)>240 then (some (t2,t3,false)) else (if (l3.length:Int)=200 then (some (t2,t3,false)) else (if t3.length<5864062014805 then (some (t2,(t3++[(⟨a1,a2⟩:S110)]),true)) else (none)))) else (some (t2,t3,false)))) else (some (t2,t3,false)))=some (r1,r2,true):=H
 have A5:=zz A6
 clear A6
 by_cases c6:t0=true
 ·subst c6
  rw [if_pos rfl] at H
  replace H:=z2a H
  obtain ⟨t1,A8,H⟩:=H
  replace H:(if t1=true then (if (a2.size:Int)>240 then (some (t2,t3,false)) else (if (l3.length:Int)=200 then (some (t2,t3,false)) else (if t3.length<5864062014805 then (some (t2,(t3++[(⟨a1,a2⟩:S110)]),true)) else (none)))) else (some (t2,t3,false)))=some (r1,r2,true):=H
  have A7:=zz A8
  clear A8
  by_cases c8:t1=true
  ·subst c8
   rw [if_pos rfl] at H
   by_cases c9:(a2.size:Int)>240
   ·exact zq203
   ·rw [if_neg c9] at H
    have c9b0:decide (240<(a2.size:Int))=false:=z7 c9
    have c9b1:decide (240<a2.size)=false:=z7 zq9
    clear c9
    by_cases c11:(l3.length:Int)=200
    ·rw [if_pos c11] at H
     have c12:((l3.length:Int)==200)=true:=beq_iff_eq.mpr c11
     have c13:((l3.length:Int) !=200)=false:=bne_eq_false_iff_eq.mpr c11
     clear c11
     exact zq162
    ·rw [if_neg c11] at H
     have c12:((l3.length:Int)==200)=false:=beq_eq_false_iff_ne.mpr c11
     have c13:((l3.length:Int) !=200)=true:=bne_iff_ne.mpr c11
     by_cases c14:t3.length<5864062014805
     ·rw [if_pos c14] at H
      have LMc43:=zz c14
      clear c14
      obtain ⟨y0,i0⟩:∃y_:List (S110),y_=(t3++[(⟨a1,a2⟩:S110)]):=⟨_,rfl⟩
      replace H:(some (t2,y0,true))=some (r1,r2,true):=zq20
      have Y0:=zz i0
      clear i0
      simp only [Option.some.injEq,Prod.mk.injEq] at H
      obtain ⟨rfl,rfl,-⟩:=H
      go_enter Tryz.func38,Tryz.ntmps38
      go_wp2_with (first|((with_reducible refine zd (N:=3) rfl ?_);(try (refine zJa zq22 ?_;dsimp only));refine zx rfl (N:=3) rfl (cs:= #[.slice A0 l2.length c0,.slice A1 l3.length c1]) (t:=37) zq27 ?_;intro g0 hg w44 hbox hb;have B0:=zz hbox;have G0:=zz (zq15:w.heap.size≤g0);replace HB:=zz (ze zq0 hb);clear hb hbox hg)|((with_reducible refine zd (N:=6) rfl ?_);(try (refine zJa zq22 ?_;dsimp only));refine zx rfl (N:=6) rfl (cs:= #[.slice none 0 0,.slice none 0 0]) (t:=37) zq27 ?_;intro g1 hg w45 hbox hb;have B2:=zz hbox;have G1:=zz (zq25 G0.1:w.heap.size≤g1);have N0:=zz (zq28 B0.1:g0≠g1);have N1:=zz (zq29 B0.1:g1≠g0);replace B0:=zz (zg (g:=g0) (o:= .cells #[.slice A0 l2.length c0,.slice A1 l3.length c1] 37 (0,0)) (zq1 B0.1) hb);replace HB:=zz (ze (zq4 G0.1) hb);clear hb hbox hg;have hnb46:=N0.1;have hnc46:=N1.1;obtain ⟨_,_,_,_⟩:=zV B0.1)|((with_reducible refine zr (f:=36) rfl ?_);refine zN (some 10) rfl rfl Tryz.func36 zq13 rfl #[.agg #[.slice A0 l2.length c0,.slice A1 l3.length c1]] rfl zq8 ?_;(with_reducible refine (spec_l03Copy.calls _ _ l2 _ _ l3 t2 t3 _ ?side1 ?side2 ?side3 ?side4 A4.1).mono ?_);(case side1=>repeat (first|exact (Kd.C_below R0.1 HB.1)|(with_reducible refine Kd.C_alloc ?_ _)|(with_reducible refine Kd.C_drewN ?_ _)|(with_reducible refine Kd.C_drew ?_)));(case side2=>exact C0.1);(case side3=>repeat (first|exact (Kd.C_below R1.1 HB.1)|(with_reducible refine Kd.C_alloc ?_ _)|(with_reducible refine Kd.C_drewN ?_ _)|(with_reducible refine Kd.C_drew ?_)));(case side4=>exact C1.1);rintro e w48 ⟨v317,v320,rfl,ho0,ho1,hb⟩;refine ⟨_,rfl,?_⟩;(first|have rs_v317:=zga (P:=Tryz.prog) ho0|have rs_v317:=zga (P:=Tryz.prog) (Kd.S_R ho0)|skip);(first|have rs_v320:=zga (P:=Tryz.prog) ho1|have rs_v320:=zga (P:=Tryz.prog) (Kd.S_R ho1)|skip);have O0:=zz (Kd.R_lower ho0 (zD (zq5 G0.1 G1.1)));have O1:=zz (Kd.R_lower ho1 (zD (zq5 G0.1 G1.1)));replace B0:=zz (zg (g:=g0) (o:= .cells #[.slice A0 l2.length c0,.slice A1 l3.length c1] 37 (0,0)) (zq1 B0.1) hb);replace B2:=zz (zg (g:=g1) (o:= .cells #[.slice none 0 0,.slice none 0 0] 37 (0,0)) (zq1 B2.1) hb);replace HB:=zz (ze (zq5 G0.1 G1.1) hb);(try clear hb);(try clear hb2);(try clear hk);(try clear hi);(try clear ho0);(try clear ho1))|((with_reducible refine zd (N:=8) rfl ?_);(try (refine zJa zq22 ?_;dsimp only));refine zx rfl (N:=8) rfl (cs:= #[.slice none 0 0,.slice none 0 0]) (t:=37) zq27 ?_;intro g2 hg w49 hbox hb;have B4:=zz hbox;have G2:=zz (zq35 G0.1 G1.1:w.heap.size≤g2);have N2:=zz (zq28 B0.1:g0≠g2);have N3:=zz (zq29 B0.1:g2≠g0);have N4:=zz (zq43 B2.1:g1≠g2);have N5:=zz (zq44 B2.1:g2≠g1);replace O0:=zz (Kd.R_below (zq17 O0.1) hb);replace O1:=zz (Kd.R_below (zq17 O1.1) hb);replace B0:=zz (zg (g:=g0) (o:= .cells #[.slice A0 l2.length c0,.slice A1 l3.length c1] 37 (0,0)) (zq1 B0.1) hb);replace B2:=zz (zg (g:=g1) (o:= .cells #[.slice none 0 0,.slice none 0 0] 37 (0,0)) (zq1 B2.1) hb);replace HB:=zz (ze (zq5 G0.1 G1.1) hb);clear hb hbox hg;obtain ⟨A9,c15,e0⟩:=Kd.R_slice O0.1;subst e0;have hnb51:=N3.1;have hnc51:=N2.1;have hnb52:=N5.1;have hnc52:=N4.1;obtain ⟨_,_,_,_⟩:=zV B4.1;obtain ⟨A10,c16,e1⟩:=Kd.R_slice O1.1;subst e1;obtain ⟨_,_,_,_⟩:=zV B0.1)|((with_reducible refine zr (f:=83) rfl ?_);refine zN (some 12) rfl rfl Tryz.func83 zq13 rfl #[.agg #[.slice A0 l2.length c0,.slice A1 l3.length c1]] rfl zq8 ?_;(with_reducible refine (spec_DiskOk.calls k _ _ l2 _ _ l3 true _ ?side1 ?side2 ?side3 ?side4 A5.1).mono ?_);(case side1=>exact Kd.C_below R0.1 (zq11 G0.1 G1.1 G2.1));(case side2=>exact C0.1);(case side3=>exact Kd.C_below R1.1 (zq11 G0.1 G1.1 G2.1));(case side4=>exact C1.1);rintro e w5 ⟨rfl,hb⟩;refine ⟨_,rfl,?_⟩;replace O0:=zz (Kd.R_below (zq48 O0.1 B4.1) hb);replace O1:=zz (Kd.R_below (zq48 O1.1 B4.1) hb);replace B0:=zz (zg (g:=g0) (o:= .cells #[.slice A0 l2.length c0,.slice A1 l3.length c1] 37 (0,0)) (zq23 N2.1 B0.1) hb);replace B2:=zz (zg (g:=g1) (o:= .cells #[.slice none 0 0,.slice none 0 0] 37 (0,0)) (zq23 N4.1 B2.1) hb);replace B4:=zz (zg (g:=g2) (o:= .cells #[.slice A9 t2.length c15,.slice A10 t3.length c16] 37 (0,0)) (zq60 B4.1) hb);replace HB:=zz (ze (zq11 G0.1 G1.1 G2.1) hb);(try clear hb);(try clear hb2);(try clear hk);(try clear hi);obtain ⟨_,_,_,_⟩:=zV B0.1)|(go_at_call 77;(try simp only [zKa]);(with_reducible refine (spec_l01In.calls a1 0 (wrap64 ((l2.length:Int)-1)) true _ A7.1).mono ?_);rintro e w' ⟨rfl,⟨nd,rfl⟩⟩;(try (rw [drewN_self w5];generalize hq_:World.drewN w5 _=w5;have n0:Z0 (Kd.R Kd.string 9 w5 w.heap.size (fun _=>True) (.slice A9 t2.length c15) t2):=⟨by rw [←hq_];exact (zq17 O0.1)⟩;have n1:Z0 (Kd.R k110 110 w5 w.heap.size (fun _=>True) (.slice A10 t3.length c16) t3):=⟨by rw [←hq_];exact (zq17 O1.1)⟩;have n2:Z0 (w5.heap[g0]?=some (.cells #[.slice A0 l2.length c0,.slice A1 l3.length c1] 37 (0,0))):=⟨by rw [←hq_];exact (zq1 B0.1)⟩;have n3:Z0 (w5.heap[g1]?=some (.cells #[.slice none 0 0,.slice none 0 0] 37 (0,0))):=⟨by rw [←hq_];exact (zq1 B2.1)⟩;have n4:Z0 (w5.heap[g2]?=some (.cells #[.slice A9 t2.length c15,.slice A10 t3.length c16] 37 (0,0))):=⟨by rw [←hq_];exact (zq1 B4.1)⟩;have n5:Z0 (Below w.heap.size w w5):=⟨by rw [←hq_];exact (zq11 G0.1 G1.1 G2.1)⟩;clear O0;clear O1;clear B0;clear B2;clear B4;clear HB;clear hq_;have O0:=n0;have O1:=n1;have B0:=n2;have B2:=n3;have B4:=n4;have HB:=n5;clear n0 n1 n2 n3 n4 n5));(try (have zcz_gb314_0:w5.cell? ⟨g0,0,none⟩=some (.slice A0 l2.length c0):=(zj B0.1 0).trans rfl));(try (have zfz_gb314_0:=zu B0.1 0));(try (have zcz_gb314_1:w5.cell? ⟨g0,1,none⟩=some (.slice A1 l3.length c1):=(zj B0.1 1).trans rfl));(try (have zfz_gb314_1:=zu B0.1 1));(try (have zcz_gb322_0:w5.cell? ⟨g2,0,none⟩=some (.slice A9 t2.length c15):=(zj B4.1 0).trans rfl));(try (have zfz_gb322_0:=zu B4.1 0));(try (have zcz_gb322_1:w5.cell? ⟨g2,1,none⟩=some (.slice A10 t3.length c16):=(zj B4.1 1).trans rfl));(try (have zfz_gb322_1:=zu B4.1 1));obtain ⟨_,_,_,_⟩:=zV B4.1)|((with_reducible refine zea (b:= .append) (xs:= #[.tmp 36,.tmp 40]) rfl ?_);(try (refine zJa zq22 ?_;dsimp only));at_builtin;refine Kd.R_append k110 (w0:=w) w.heap.size rfl (.tmp 36) (.tmp 40) 35 110 (.agg #[(.int .i64 0),(.string ⟨#[]⟩)]) 24 rfl Tryz.underlying35 info110 rfl zq31 zq9 (.slice A10 t3.length c16) t3 (⟨a1,a2⟩:S110) [.int .i64 a1,.string a2] (fun _=>True) (fun _=>False) rfl rfl ?aP (fun _ hk=>hk.elim) ?aF ?aO ?aB ?aS ?aL ?_;(case aP=>exact k110_mkM _ _ _ (⟨a1,a2⟩:S110));(case aB=>exact (zq11 G0.1 G1.1 G2.1));(case aF=>exact (fun _ _=>trivial));(case aO=>exact (zq17 O1.1));(case aS=>exact (zD (zq11 G0.1 G1.1 G2.1)));(case aL=>have:=LMc43.1;omega);intro v326 w59 ho hb hg hat;rw [←Y0.1] at ho;have O2:=zz ho;replace B0:=zz (zK (g:=g0) (o:= .cells #[.slice A0 l2.length c0,.slice A1 l3.length c1] 37 (0,0)) (zq1 B0.1) hg (Kd.R_ne O1.1 B0.1 zq31));replace B2:=zz (zK (g:=g1) (o:= .cells #[.slice none 0 0,.slice none 0 0] 37 (0,0)) (zq1 B2.1) hg (Kd.R_ne O1.1 B2.1 zq31));replace O0:=zz (Kd.R_over' (zq17 O0.1) (Kd.R_typed (zq17 O1.1)) zq31 hg);replace B4:=zz (zK (g:=g2) (o:= .cells #[.slice A9 t2.length c15,.slice A10 t3.length c16] 37 (0,0)) (zq1 B4.1) hg (Kd.R_ne O1.1 B4.1 zq31));replace HB:=zz hb;clear O1;clear ho hb hg hat;obtain ⟨A11,c17,e2⟩:=Kd.R_slice O2.1;subst e2;obtain ⟨_,_,_,_⟩:=zV B4.1;obtain ⟨_,_,_,_⟩:=zV B2.1))
      exact zq185
     ·rw [if_neg c14] at H
      exact absurd H zq38
  ·replace c8:=Bool.eq_false_iff.mpr c8
   subst c8
   exact zq208
 ·replace c6:=Bool.eq_false_iff.mpr c6
  subst c6
  exact zq208
theorem writeS_t (k:Nat) (z z':(List ByteArray×List S110)) (a:Int) (t:ByteArray) {cs:List Value} (w:World) (h:kDisk.K w z cs) (hf:spec_WritePage.f k z.1 z.2 a t=some (z'.1,z'.2,true)):
  Calls Tryz.prog 38 #[.agg cs.toArray,.int .i64 a,.string t] w fun e w'=>∃ds:List Value,e= .returned (.tuple #[.agg ds.toArray,.bool true])∧kDisk.M w' w.heap.size (Fr w w') z' ds∧Below w.heap.size w w':=by
 obtain ⟨l0,l1⟩:=z
 obtain ⟨q0,q1⟩:=z'
 obtain ⟨A0,c0,A1,c1,rfl,m0,r0,m1,r1⟩:=zza h
 refine (spec_WritePage.callsT k A0 c0 l0 A1 c1 l1 a t q0 q1 w r0 m0 r1 m1 hf).mono ?_
 rintro e w' ⟨v0,v1,rfl,R0,R1,hb⟩
 have T0:=Own.R_tightB rfl R0
 have T1:=Own.R_tightB rfl R1
 exact ⟨[v0,v1],rfl,zub T0.1 T1.1 T0.2.1 T1.2.1 (Own.types_ne T0.2.2 T1.2.2 zq31),hb⟩
end Go.Proofs.YtonhdiemjgdcnaaGreat.PFnExactGivePage
