import Derived.Test.YtonhdiemjgdcnaaGreatCA9
import Derived.Shelf.Sort.Plain
import Derived.Ground.Names2Prog
import Derived.Shelf.Slices.In.SortNone
import Derived.Sort.OwnSortedInts
set_option maxHeartbeats 64000000
set_option maxRecDepth 100000
set_option linter.unusedVariables false
set_option linter.unusedSimpArgs false
namespace Go.Proofs
open Go.Shelf
def Tryz.lays189_ren:Go.Shelf.Ren:=⟨fun|189=>91|125=>122|257=>121|128=>144|129=>145|294=>135|295=>136|296=>137|297=>138|298=>139|299=>140|216=>141|300=>142|301=>143|328=>150|329=>151|330=>152|331=>153|332=>154|215=>155|343=>157|n=>n,fun|28=>29|3=>3|46=>149|0=>0|51=>143|53=>171|4=>4|183=>162|182=>161|131=>167|5=>5|9=>9|218=>175|222=>179|228=>181|229=>182|n=>n,fun|n=>n⟩
theorem Tryz.lays189:Go.Proofs.Lays.n189 Tryz.prog Tryz.lays189_ren:={
 mixed:=by kernel_rfl
 f125:=Tryz.func122.trans (congrArg some zq7)
 f128:=Tryz.func144.trans (congrArg some zq7)
 f129:=Tryz.func145.trans (congrArg some zq7)
 f189:=Tryz.func91.trans (congrArg some zq7)
 f215:=Tryz.func155.trans (congrArg some zq7)
 f216:=Tryz.func141.trans (congrArg some zq7)
 f257:=Tryz.func121.trans (congrArg some zq7)
 f294:=Tryz.func135.trans (congrArg some zq7)
 f295:=Tryz.func136.trans (congrArg some zq7)
 f296:=Tryz.func137.trans (congrArg some zq7)
 f297:=Tryz.func138.trans (congrArg some zq7)
 f298:=Tryz.func139.trans (congrArg some zq7)
 f299:=Tryz.func140.trans (congrArg some zq7)
 f300:=Tryz.func142.trans (congrArg some zq7)
 f301:=Tryz.func143.trans (congrArg some zq7)
 f328:=Tryz.func150.trans (congrArg some zq7)
 f329:=Tryz.func151.trans (congrArg some zq7)
 f330:=Tryz.func152.trans (congrArg some zq7)
 f331:=Tryz.func153.trans (congrArg some zq7)
 f332:=Tryz.func154.trans (congrArg some zq7)
 f343:=Tryz.func157.trans (congrArg some zq7)
 t0:=Tryz.underlying0
 a0:=Tryz.isAgg0
 z0:=Tryz.sizeOf0
 v0:=Tryz.zeroValue0
 t3:=Tryz.underlying3
 a3:=Tryz.isAgg3
 z3:=Tryz.sizeOf3
 v3:=Tryz.zeroValue3
 t4:=Tryz.underlying4
 a4:=Tryz.isAgg4
 z4:=Tryz.sizeOf4
 v4:=Tryz.zeroValue4
 t5:=Tryz.underlying5
 a5:=Tryz.isAgg5
 z5:=Tryz.sizeOf5
 v5:=Tryz.zeroValue5
 t9:=Tryz.underlying9
 a9:=Tryz.isAgg9
 z9:=Tryz.sizeOf9
 v9:=Tryz.zeroValue9
 t28:=Tryz.underlying29
 a28:=Tryz.isAgg29
 z28:=Tryz.sizeOf29
 v28:=Tryz.zeroValue29
 t46:=Tryz.underlying149
 a46:=Tryz.isAgg149
 z46:=Tryz.sizeOf149
 v46:=Tryz.zeroValue149
 t51:=Tryz.underlying143
 a51:=Tryz.isAgg143
 z51:=Tryz.sizeOf143
 v51:=Tryz.zeroValue143
 t53:=Tryz.underlying171
 a53:=Tryz.isAgg171
 z53:=Tryz.sizeOf171
 v53:=Tryz.zeroValue171
 t131:=Tryz.underlying167
 a131:=Tryz.isAgg167
 z131:=Tryz.sizeOf167
 v131:=Tryz.zeroValue167
 t182:=Tryz.underlying161
 a182:=Tryz.isAgg161
 z182:=Tryz.sizeOf161
 v182:=Tryz.zeroValue161
 t183:=Tryz.underlying162
 a183:=Tryz.isAgg162
 z183:=Tryz.sizeOf162
 v183:=Tryz.zeroValue162
 t218:=Tryz.underlying175
 a218:=Tryz.isAgg175
 z218:=Tryz.sizeOf175
 v218:=Tryz.zeroValue175
 t222:=Tryz.underlying179
 a222:=Tryz.isAgg179
 z222:=Tryz.sizeOf179
 v222:=Tryz.zeroValue179
 t228:=Tryz.underlying181
 a228:=Tryz.isAgg181
 z228:=Tryz.sizeOf181
 v228:=Tryz.zeroValue181
 t229:=Tryz.underlying182
 a229:=Tryz.isAgg182
 z229:=Tryz.sizeOf182
 v229:=Tryz.zeroValue182}
open Go.Sort Go.RowKit in
theorem Tryz.slices_Sort_int (blk off cap:Nat) (zs:List Int) (w:World) (hH:Holds (Value.int .i64) w blk off zs.toArray) (hblk:blk<w.heap.size) (hsz:zs.length<4611686018427387904):
 Calls Tryz.prog 91 #[.slice (some ⟨blk,off,none⟩) zs.length cap] w fun e w'=>
  e= .returned (.tuple #[])∧∃n os,w'=grow (putRow (Value.int .i64) (Sort.ahead w n) blk off (zs.mergeSort fun x y=>decide (x≤y)).toArray) os:=Any.slices_Sort_int Tryz.lays189 blk off cap zs w hH hblk hsz
open Go.RowKit Go.Sort in
theorem Tryz.slices_Sort_int_none (p:Option Addr) (cap:Nat) (w:World):
 Calls Tryz.prog 91 #[.slice p 0 cap] w fun e w'=>e= .returned (.tuple #[])∧w'=w:=Any.slices_Sort_int_none Tryz.lays189 p cap w
end Go.Proofs
namespace Go.Proofs.YtonhdiemjgdcnaaGreat.PFnExactGivePage
open Go.RowKit Go.Proofs.YtonhdiemjgdcnaaGreatW.PrintWords Go.Proofs.YtonhdiemjgdcnaaGreatW.PrintLast Go.Proofs.YtonhdiemjgdcnaaGreatW.PrintMore
attribute [local go_sem] zka zma zta zsa zaa zba zja zla
theorem sort_own {W:World} {base:Nat} {A:Option Addr} {c:Nat} {xs:List Int} (h:Kd.R (Kd.int .i64) 3 W base (fun _=>True) (.slice A xs.length c) xs) (hlen:xs.length≤4000000):
  Calls Tryz.prog 91 #[.slice A xs.length c] W fun e W'=>e= .returned (.tuple #[])∧Kd.R (Kd.int .i64) 3 W' base (fun _=>True) (.slice A xs.length c) (srt xs)∧W.grownBy W' (Value.slice A xs.length c).ownBlock:=by
 by_cases hz:xs.length=0
 ·have e0:xs=[]:=List.length_eq_zero_iff.1 hz
  subst e0
  refine (Tryz.slices_Sort_int_none A c W).mono ?_
  rintro e W' ⟨rfl,rfl⟩
  exact ⟨rfl,by rw [show srt ([]:List Int)=[] from by simp [srt]];exact h,World.grownBy.refl _ _⟩
 ·have ho:=Kd.own_of_R h
  rcases ho.2 with ⟨h0,h1⟩|⟨g,cap,cur,hv,hg,hh,hn,hcap,hsz,ht⟩
  ·have:=h1
   simp_all
  ·cases hv
   have hH:=Go.holds_of_blockI (ss:=xs) hh (by simpa [encs] using ht)
   refine (Tryz.slices_Sort_int g 0 c xs W hH (zI hh) zq5).mono ?_
   rintro e W' ⟨rfl,n,os,rfl⟩
   refine ⟨rfl,?_,?_⟩
   ·have ho2:=Go.ownsRow_sortedI (n:=n) (os:=os) (ts:=srt xs) (srt_len xs) hg hh hn hcap hsz
    have:=Kd.R_of_own (enc:=Value.int .i64) (h1:=fun _=>rfl) (ok:=fun _=>True) (xs:=srt xs) (v:= .slice (some ⟨g,0,none⟩) xs.length c) (by rw [srt_len];simpa [encs] using ho2) (fun _ _=>trivial)
    exact this
   ·exact Go.grownBy_sortedI _
def implMetaText.T3:Bool×List (List Nat×List Nat):=(true,[([],[]),([0],[0]),([1],[1]),([],[]),([3],[3]),([4,2],[4]),([2,5],[2,5]),([],[]),([7],[7]),([8,5],[8]),([6,9],[6,9]),([],[]),([11],[11]),([12],[12]),([13,9],[13]),([10,14],[10,14]),([15,14,0,1,2,3,4,5,6,7,8,9,10,11,12,13,14,15],[15])])
def implMetaText.B3:List Nat:=[0,1,3,0,8,31,63,0,128,447,1023,0,2048,6144,15295,32767,65535]
theorem implMetaText.ok3_2:regB (zQa Tryz.f92 3) implMetaText.T3 implMetaText.B3 [] [.p 0,.t 1,.p 3,.t 4,.p 7,.t 8,.p 11,.t 12,.p 13,.e 2,.e 5,.p 6,.e 9,.p 10,.e 14,.p 15,.p 16]=true:=by kernel_rfl
def implMetaText.T7:Bool×List (List Nat×List Nat):=(true,[([],[]),([],[]),([1],[1]),([2],[2]),([],[]),([4],[4]),([5],[5]),([6,3],[6]),([3,7],[3,7]),([0,8],[0,8]),([9,7,0,1,2,3,4,5,6,7,8,9],[0,9])])
def implMetaText.B7:List Nat:=[0,0,2,6,0,16,48,126,254,511,1023]
theorem implMetaText.ok7_3:regB (zQa Tryz.f92 7) implMetaText.T7 implMetaText.B7 [] [.p 0,.p 1,.t 2,.p 4,.t 5,.p 6,.e 3,.e 7,.p 8,.p 9,.p 10]=true:=by kernel_rfl
theorem zNa {k:Nat} {vt:Int→ByteArray} {sl:ByteArray→ByteArray} (T:TxF k vt sl) (x:S40) (t:ByteArray) (ok:Bool) {cs:List Value} (w:World) (h:k40.K w x cs) (hm:MTxt vt sl x t ok):
  Calls Tryz.prog 92 #[.agg cs.toArray] w fun e w'=>e= .returned (.tuple #[.string t,.bool ok])∧Below w.heap.size w w':=by
 have hK:=h
 obtain ⟨AF,cF,rfl,mF,rF⟩:=zEa h
 have KR:=zz rF
 have KM:=zz hK
 have HM:=zz hm
 have HV:=zz T
 have bn:=rF.2.1
 have BA:=zz (BoxAt.mk (cs:=[.int .i64 x.f0,.int .i64 x.f1,.int .i64 x.f2,.slice AF x.f3.length cF]) (zia w (.cells #[.int .i64 x.f0,.int .i64 x.f1,.int .i64 x.f2,.slice AF x.f3.length cF] 40)) (zf (Below.refl w.heap.size w) (.cells #[.int .i64 x.f0,.int .i64 x.f1,.int .i64 x.f2,.slice AF x.f3.length cF] 40)))
 clear h mF rF hm hK T
 by_cases hh:MOk x
 ·have HO:=zz hh
  have n0:=hh.f0
  have n1:=hh.f1
  have n2:=hh.f2
  have n3:=hh.len
  clear hh
  go_enter Tryz.func92,Tryz.ntmps92
  go_upto_region 3 with (first|((with_reducible refine zn (N:=9) rfl ?_);refine zA rfl 40 _ rfl w.heap.size 0 [] [.int .i64 x.f0,.int .i64 x.f1,.int .i64 x.f2,.slice AF x.f3.length cF] [] _ rfl BA.out.box rfl rfl Tryz.underlying40 rfl zq7 ?_)|((with_reducible refine (implMetaOk_c x true _ (k40.K_below BA.out.bel KM.out) ⟨fun _=>HO.out,fun _=>rfl⟩).mono ?_);rintro e w1 ⟨rfl,hb⟩;have BA1:=zz (BA.out.step hb);clear hb))
  have hp0:w1.cell? ⟨w.heap.size,0,none⟩=some (.int .i64 x.f0):=(zd BA1.out.box 0).trans rfl
  have hp1:w1.cell? ⟨w.heap.size,1,none⟩=some (.int .i64 x.f1):=(zd BA1.out.box 1).trans rfl
  have hp2:w1.cell? ⟨w.heap.size,2,none⟩=some (.int .i64 x.f2):=(zd BA1.out.box 2).trans rfl
  have hp3:w1.cell? ⟨w.heap.size,3,none⟩=some (.slice AF x.f3.length cF):=(zd BA1.out.box 3).trans rfl
  have s0:=HV.out.vz x.f0
  have s1:=HV.out.vz x.f1
  have s2:=HV.out.vz x.f2
  have s3:=HV.out.vz (x.f3.length:Int)
  have za:(9223372036854775807<(vt x.f0).size+(vt x.f1).size)=False:=eq_false zq5
  have zb:(9223372036854775807<(vt x.f0).size+(vt x.f1).size+(vt x.f2).size)=False:=eq_false zq5
  have zc:(9223372036854775807<(vt x.f0).size+(vt x.f1).size+(vt x.f2).size+(vt (x.f3.length:Int)).size)=False:=eq_false zq5
  have HK:=zz (Below.refl w1.heap.size w1).drew
  refine zMa implMetaText.ok3_2 (S:=fun w'=>w'.cell? ⟨w.heap.size,0,none⟩=some (.int .i64 x.f0)∧w'.cell? ⟨w.heap.size,1,none⟩=some (.int .i64 x.f1)∧w'.cell? ⟨w.heap.size,2,none⟩=some (.int .i64 x.f2)∧w'.cell? ⟨w.heap.size,3,none⟩=some (.slice AF x.f3.length cF)) zq7 (fun _ _ _ _ h=>h) ⟨zk hp0 HK.out,zk hp1 HK.out,zk hp2 HK.out,zk hp3 HK.out⟩ (fun hHeld=> ?_)
  (refine zpa (v:= ?_) (a':= ?_) rfl rfl (Or.inl ⟨by rfl,?_⟩) ?_ ?_;rotate_left;(· intro w';go_simp;with_reducible rfl);rotate_left;(· show Act.put _ (some _) _=_;simp only [Act.put,List.setIfInBounds_toArray,List.set_cons_zero,List.set_cons_succ,zr,zD];try rfl))
  (refine zTa (v:= ?_) (a':= ?_) rfl rfl (Or.inl ⟨by rfl,?_⟩) ?_ ?_;rotate_left;(· rintro w' ⟨s0,s1,s2,s3⟩;go_simp;with_reducible rfl);rotate_left;(· show Act.put _ (some _) _=_;simp only [Act.put,List.setIfInBounds_toArray,List.set_cons_zero,List.set_cons_succ,zr,zD];try rfl))
  (refine zpa (v:= ?_) (a':= ?_) rfl rfl (Or.inl ⟨by rfl,?_⟩) ?_ ?_;rotate_left;(· intro w';go_simp;with_reducible rfl);rotate_left;(· show Act.put _ (some _) _=_;simp only [Act.put,List.setIfInBounds_toArray,List.set_cons_zero,List.set_cons_succ,zr,zD];try rfl))
  (refine zTa (v:= ?_) (a':= ?_) rfl rfl (Or.inl ⟨by rfl,?_⟩) ?_ ?_;rotate_left;(· rintro w' ⟨s0,s1,s2,s3⟩;go_simp;with_reducible rfl);rotate_left;(· show Act.put _ (some _) _=_;simp only [Act.put,List.setIfInBounds_toArray,List.set_cons_zero,List.set_cons_succ,zr,zD];try rfl))
  (refine zpa (v:= ?_) (a':= ?_) rfl rfl (Or.inl ⟨by rfl,?_⟩) ?_ ?_;rotate_left;(· intro w';go_simp;with_reducible rfl);rotate_left;(· show Act.put _ (some _) _=_;simp only [Act.put,List.setIfInBounds_toArray,List.set_cons_zero,List.set_cons_succ,zr,zD];try rfl))
  (refine zTa (v:= ?_) (a':= ?_) rfl rfl (Or.inl ⟨by rfl,?_⟩) ?_ ?_;rotate_left;(· rintro w' ⟨s0,s1,s2,s3⟩;go_simp;with_reducible rfl);rotate_left;(· show Act.put _ (some _) _=_;simp only [Act.put,List.setIfInBounds_toArray,List.set_cons_zero,List.set_cons_succ,zr,zD];try rfl))
  (refine zpa (v:= ?_) (a':= ?_) rfl rfl (Or.inl ⟨by rfl,?_⟩) ?_ ?_;rotate_left;(· intro w';go_simp;with_reducible rfl);rotate_left;(· show Act.put _ (some _) _=_;simp only [Act.put,List.setIfInBounds_toArray,List.set_cons_zero,List.set_cons_succ,zr,zD];try rfl))
  (refine zTa (v:= ?_) (a':= ?_) rfl rfl (Or.inl ⟨by rfl,?_⟩) ?_ ?_;rotate_left;(· rintro w' ⟨s0,s1,s2,s3⟩;go_simp;with_reducible rfl);rotate_left;(· show Act.put _ (some _) _=_;simp only [Act.put,List.setIfInBounds_toArray,List.set_cons_zero,List.set_cons_succ,zr,zD];try rfl))
  (refine zpa (v:= ?_) (a':= ?_) rfl rfl (Or.inl ⟨by rfl,?_⟩) ?_ ?_;rotate_left;(· intro w';go_simp;with_reducible rfl);rotate_left;(· show Act.put _ (some _) _=_;simp only [Act.put,List.setIfInBounds_toArray,List.set_cons_zero,List.set_cons_succ,zr,zD];try rfl))
  refine zya rfl rfl Tryz.func124 zq7 rfl #[.int .i64 x.f0] zq15 rfl zq10 ?_
  with_reducible refine (varI HV.out x.f0 n0.1 n0.2 _).mono ?_
  rintro e w2 ⟨rfl,hb⟩
  replace HK:=zz (zh HK.out hb)
  clear hb
  refine ⟨_,rfl,⟨zk hp0 HK.out,zk hp1 HK.out,zk hp2 HK.out,zk hp3 HK.out⟩,(fun hHeld=> ?_)⟩
  refine zna (a':= ?_) ?_ ?_;rotate_left;(· show Act.put _ (some 14) _=_;simp only [Act.put,List.setIfInBounds_toArray,List.set_cons_zero,List.set_cons_succ,zr,zD];try rfl)
  refine zya rfl rfl Tryz.func124 zq7 rfl #[.int .i64 x.f1] zq15 rfl zq10 ?_
  with_reducible refine (varI HV.out x.f1 n1.1 n1.2 _).mono ?_
  rintro e w2 ⟨rfl,hb⟩
  replace HK:=zz (zh HK.out hb)
  clear hb
  refine ⟨_,rfl,⟨zk hp0 HK.out,zk hp1 HK.out,zk hp2 HK.out,zk hp3 HK.out⟩,(fun hHeld=> ?_)⟩
  refine zna (a':= ?_) ?_ ?_;rotate_left;(· show Act.put _ (some 17) _=_;simp only [Act.put,List.setIfInBounds_toArray,List.set_cons_zero,List.set_cons_succ,zr,zD];try rfl)
  (refine zpa (v:= ?_) (a':= ?_) rfl rfl (Or.inl ⟨by rfl,?_⟩) ?_ ?_;rotate_left;(· intro w';go_simp;with_reducible rfl);rotate_left;(· show Act.put _ (some _) _=_;simp only [Act.put,List.setIfInBounds_toArray,List.set_cons_zero,List.set_cons_succ,zr,zD];try rfl))
  refine zya rfl rfl Tryz.func124 zq7 rfl #[.int .i64 x.f2] zq15 rfl zq10 ?_
  with_reducible refine (varI HV.out x.f2 n2.1 n2.2 _).mono ?_
  rintro e w2 ⟨rfl,hb⟩
  replace HK:=zz (zh HK.out hb)
  clear hb
  refine ⟨_,rfl,⟨zk hp0 HK.out,zk hp1 HK.out,zk hp2 HK.out,zk hp3 HK.out⟩,(fun hHeld=> ?_)⟩
  refine zna (a':= ?_) ?_ ?_;rotate_left;(· show Act.put _ (some 21) _=_;simp only [Act.put,List.setIfInBounds_toArray,List.set_cons_zero,List.set_cons_succ,zr,zD];try rfl)
  (refine zpa (v:= ?_) (a':= ?_) rfl rfl (Or.inl ⟨by rfl,?_⟩) ?_ ?_;rotate_left;(· intro w';go_simp;with_reducible rfl);rotate_left;(· show Act.put _ (some _) _=_;simp only [Act.put,List.setIfInBounds_toArray,List.set_cons_zero,List.set_cons_succ,zr,zD];try rfl))
  refine zya rfl rfl Tryz.func124 zq7 rfl #[.int .i64 (x.f3.length:Int)] zq15 rfl zq10 ?_
  with_reducible refine (varI HV.out (x.f3.length:Int) zq5 zq5 _).mono ?_
  rintro e w2 ⟨rfl,hb⟩
  replace HK:=zz (zh HK.out hb)
  clear hb
  refine ⟨_,rfl,⟨zk hp0 HK.out,zk hp1 HK.out,zk hp2 HK.out,zk hp3 HK.out⟩,(fun hHeld=> ?_)⟩
  refine zna (a':= ?_) ?_ ?_;rotate_left;(· show Act.put _ (some 26) _=_;simp only [Act.put,List.setIfInBounds_toArray,List.set_cons_zero,List.set_cons_succ,zr,zD];try rfl)
  iterate 2 (refine zpa (v:= ?_) (a':= ?_) rfl rfl (Or.inl ⟨by rfl,?_⟩) ?_ ?_;rotate_left;(· intro w';go_simp;with_reducible rfl);rotate_left;(· show Act.put _ (some _) _=_;simp only [Act.put,List.setIfInBounds_toArray,List.set_cons_zero,List.set_cons_succ,zr,zD];try rfl))
  refine zZa ?_
  clear hHeld hp0 hp1 hp2 hp3 za zb zc s0 s1 s2 s3
  replace BA1:=zz (BA1.out.step HK.out)
  clear HK
  have hp3:w2.cell? ⟨w.heap.size,3,none⟩=some (.slice AF x.f3.length cF):=(zd BA1.out.box 3).trans rfl
  go_wp2_with fail
  clear hp3
  go_loopg [4,31] (x.f3.length+1) (fun kq v4 v5 w'=>∃(i:Nat),v4= .string (facc vt (mhead vt x) (x.f3.take i))∧v5= .int .i64 (i:Int)∧Z0 (kq+i=x.f3.length+1)∧Z0 (i≤x.f3.length)∧Z0 (BoxAt w w' [.int .i64 x.f0,.int .i64 x.f1,.int .i64 x.f2,.slice AF x.f3.length cF]))
  case atStart=>exact ⟨0,rfl,rfl,⟨by omega⟩,⟨Nat.zero_le _⟩,BA1⟩
  case round=>
   clear BA BA1
   obtain ⟨i,rfl,rfl,HQ,HI,BA⟩:=hrel
   obtain ⟨s,hs⟩:∃s,s=facc vt (mhead vt x) (x.f3.take i):=⟨_,rfl⟩
   have hsz:s.size≤7000:=by
    have h1:=facc_size HV.out.vz (mhead vt x) (x.f3.take i) (fun f hf=>HO.out.le40 f (List.mem_of_mem_take hf))
    have h2:=mhead_size HV.out.vz x
    have h3:=List.length_take_le i x.f3
    have h4:=HI.out
    rw [hs]
    omega
   rw [←hs]
   have HSE:=zz hs
   clear hs
   by_cases hlt:i<x.f3.length
   ·have c1:decide ((i:Int)<(x.f3.length:Int))=true:=decide_eq_true zq5
    have c0:decide ((0:Int)≤(i:Int))=true:=decide_eq_true zq5
    have c2:((i:Int)<(x.f3.length:Int))=True:=eq_true zq5
    have c3:((0:Int)≤(i:Int))=True:=eq_true zq5
    cases gk with
    |zero=>exact absurd HQ.out zq5
    |succ k1=>
     obtain ⟨ad,A1,c1_,hA,z0,z1,hl4,hC4⟩:=zbb KR.out (i:Int) zq5 zq5
     subst hA
     obtain ⟨el,hel⟩:∃el,el=zH x.f3 (i:Int):=⟨_,rfl⟩
     have hel2:x.f3[i]?=some el:=by rw [hel];simp [zH,List.getD_eq_getElem?_getD,List.getElem?_eq_getElem hlt]
     rw [←hel] at z0 z1 hl4 hC4
     simp only [Int.toNat_natCast] at z0 z1
     have Z1:=zz z1
     replace z0:=zk z0 BA.out.bel
     replace z1:=zk z1 BA.out.bel
     have HE:=zz hel2
     have KE:=zz hC4
     have be:el.f1.length≤9223372036854775807:=hC4.2.1
     have nf:=(HO.out.fr hel2).1
     have nl:=(HO.out.fr hel2).2.1
     have s0:=HV.out.vz el.f0
     have s3:=HV.out.vz (el.f1.length:Int)
     clear hel hel2 hC4 hl4
     have zp:=trivial
     have za:(9223372036854775807<(vt el.f0).size+(vt (el.f1.length:Int)).size)=False:=eq_false zq5
     have zb:(9223372036854775807<s.size+((vt el.f0).size+(vt (el.f1.length:Int)).size))=False:=eq_false zq5
     go_upto_region 7 with (fail)
     obtain ⟨W1,hW1⟩:∃W1,W1=wr.alloc (.cells #[.int .i64 el.f0,.slice A1 el.f1.length c1_] 112):=⟨_,rfl⟩
     have BF:=zz (show W1.heap[wr.heap.size]?=some (.cells ([.int .i64 el.f0,.slice A1 el.f1.length c1_]:List Value).toArray 112 (0,0)) from by rw [hW1];exact zia wr _)
     have HB1:=zz (show Below wr.heap.size wr W1 from by rw [hW1];exact zf (Below.refl _ _) _)
     rw [←hW1]
     obtain ⟨gF,hgF⟩:∃g,g=wr.heap.size:=⟨_,rfl⟩
     rw [←hgF] at BF ⊢
     clear hW1 z0 z1 hgF
     replace BA:=zz (BA.out.step HB1.out)
     clear HB1
     have hf0:W1.cell? ⟨gF,0,none⟩=some (.int .i64 el.f0):=(zd BF.out 0).trans rfl
     have hf1:W1.cell? ⟨gF,1,none⟩=some (.slice A1 el.f1.length c1_):=(zd BF.out 1).trans rfl
     have HK:=zz (Below.refl W1.heap.size W1).drew
     refine zMa implMetaText.ok7_3 (S:=fun w'=>w'.cell? ⟨gF,0,none⟩=some (.int .i64 el.f0)∧w'.cell? ⟨gF,1,none⟩=some (.slice A1 el.f1.length c1_)) zq7 (fun _ _ _ _ h=>h) ⟨zk hf0 HK.out,zk hf1 HK.out⟩ (fun hHeld=> ?_)
     iterate 2 (refine zpa (v:= ?_) (a':= ?_) rfl rfl (Or.inl ⟨by rfl,?_⟩) ?_ ?_;rotate_left;(· intro w';go_simp;with_reducible rfl);rotate_left;(· show Act.put _ (some _) _=_;simp only [Act.put,List.setIfInBounds_toArray,List.set_cons_zero,List.set_cons_succ,zr,zD];try rfl))
     (refine zTa (v:= ?_) (a':= ?_) rfl rfl (Or.inl ⟨by rfl,?_⟩) ?_ ?_;rotate_left;(· rintro w' ⟨s0,s1⟩;go_simp;with_reducible rfl);rotate_left;(· show Act.put _ (some _) _=_;simp only [Act.put,List.setIfInBounds_toArray,List.set_cons_zero,List.set_cons_succ,zr,zD];try rfl))
     (refine zpa (v:= ?_) (a':= ?_) rfl rfl (Or.inl ⟨by rfl,?_⟩) ?_ ?_;rotate_left;(· intro w';go_simp;with_reducible rfl);rotate_left;(· show Act.put _ (some _) _=_;simp only [Act.put,List.setIfInBounds_toArray,List.set_cons_zero,List.set_cons_succ,zr,zD];try rfl))
     (refine zTa (v:= ?_) (a':= ?_) rfl rfl (Or.inl ⟨by rfl,?_⟩) ?_ ?_;rotate_left;(· rintro w' ⟨s0,s1⟩;go_simp;with_reducible rfl);rotate_left;(· show Act.put _ (some _) _=_;simp only [Act.put,List.setIfInBounds_toArray,List.set_cons_zero,List.set_cons_succ,zr,zD];try rfl))
     (refine zpa (v:= ?_) (a':= ?_) rfl rfl (Or.inl ⟨by rfl,?_⟩) ?_ ?_;rotate_left;(· intro w';go_simp;with_reducible rfl);rotate_left;(· show Act.put _ (some _) _=_;simp only [Act.put,List.setIfInBounds_toArray,List.set_cons_zero,List.set_cons_succ,zr,zD];try rfl))
     refine zya rfl rfl Tryz.func124 zq7 rfl #[.int .i64 el.f0] zq15 rfl zq10 ?_
     with_reducible refine (varI HV.out el.f0 nf.1 nf.2 _).mono ?_
     rintro e w2 ⟨rfl,hb⟩
     replace HK:=zz (zh HK.out hb)
     clear hb
     refine ⟨_,rfl,⟨zk hf0 HK.out,zk hf1 HK.out⟩,(fun hHeld=> ?_)⟩
     refine zna (a':= ?_) ?_ ?_;rotate_left;(· show Act.put _ (some 38) _=_;simp only [Act.put,List.setIfInBounds_toArray,List.set_cons_zero,List.set_cons_succ,zr,zD];try rfl)
     refine zya rfl rfl Tryz.func124 zq7 rfl #[.int .i64 (el.f1.length:Int)] zq15 rfl zq10 ?_
     with_reducible refine (varI HV.out (el.f1.length:Int) zq5 zq5 _).mono ?_
     rintro e w2 ⟨rfl,hb⟩
     replace HK:=zz (zh HK.out hb)
     clear hb
     refine ⟨_,rfl,⟨zk hf0 HK.out,zk hf1 HK.out⟩,(fun hHeld=> ?_)⟩
     refine zna (a':= ?_) ?_ ?_;rotate_left;(· show Act.put _ (some 42) _=_;simp only [Act.put,List.setIfInBounds_toArray,List.set_cons_zero,List.set_cons_succ,zr,zD];try rfl)
     iterate 3 (refine zpa (v:= ?_) (a':= ?_) rfl rfl (Or.inl ⟨by rfl,?_⟩) ?_ ?_;rotate_left;(· intro w';go_simp;with_reducible rfl);rotate_left;(· show Act.put _ (some _) _=_;simp only [Act.put,List.setIfInBounds_toArray,List.set_cons_zero,List.set_cons_succ,zr,zD];try rfl))
     refine zZa ?_
     clear hHeld zp za zb
     obtain ⟨s1,hs1⟩:∃s1,s1=s++(vt el.f0++vt (el.f1.length:Int)):=⟨_,rfl⟩
     have hsz1:s1.size≤7016:=by rw [hs1,ByteArray.size_append,ByteArray.size_append];omega
     rw [←hs1]
     have HS1:=zz hs1
     clear hs1 hf0 hf1
     replace BA:=zz (BA.out.step HK.out)
     replace BF:=zz (zo BF.out HK.out)
     clear HK s0 s3
     have HK:=trivial
     have hf1:w2.cell? ⟨gF,1,none⟩=some (.slice A1 el.f1.length c1_):=(zd BF.out 1).trans rfl
     go_wp2_with fail
     clear hf1 BF HK
     go_loopg [4,48] (el.f1.length+1) (fun kq v4 v6 w'=>∃(j:Nat),v4= .string (pacc vt s1 (el.f1.take j))∧v6= .int .i64 (j:Int)∧Z0 (kq+j=el.f1.length+1)∧Z0 (j≤el.f1.length)∧Z0 (BoxAt w w' [.int .i64 x.f0,.int .i64 x.f1,.int .i64 x.f2,.slice (some ad) x.f3.length cF]))
     case atStart=>exact ⟨0,rfl,rfl,⟨by omega⟩,⟨Nat.zero_le _⟩,BA⟩
     case round=>
      clear BA
      obtain ⟨j,rfl,rfl,HQ2,HI2,BA⟩:=hrel
      obtain ⟨s2,hs2⟩:∃s2,s2=pacc vt s1 (el.f1.take j):=⟨_,rfl⟩
      have hsz2:s2.size≤8000:=by
       have h1:=pacc_size HV.out.vz s1 (el.f1.take j)
       have h3:=List.length_take_le j el.f1
       have h4:=HI2.out
       rw [hs2]
       omega
      rw [←hs2]
      have HS2:=zz hs2
      clear hs2
      by_cases hk:j<el.f1.length
      ·have d1:decide ((j:Int)<(el.f1.length:Int))=true:=decide_eq_true zq5
       have d0:decide ((0:Int)≤(j:Int))=true:=decide_eq_true zq5
       have d2:((j:Int)<(el.f1.length:Int))=True:=eq_true zq5
       have d3:((0:Int)≤(j:Int))=True:=eq_true zq5
       cases gk with
       |zero=>exact absurd HQ2.out zq5
       |succ k2=>
        obtain ⟨ap,hAp,pc⟩:=C_at KE.out hk
        subst hAp
        obtain ⟨p,hp⟩:∃p,p=el.f1[j]:=⟨_,rfl⟩
        rw [←hp] at pc
        have HPK:=zz (show el.f1[j]?=some p from by rw [hp];exact List.getElem?_eq_getElem hk)
        clear hp
        replace pc:=zk pc BA.out.bel
        have np:=(HO.out.fr HE.out).2.2 j p HPK.out
        have sp:=HV.out.vz p
        have za:(9223372036854775807<s2.size+(vt p).size)=False:=eq_false zq5
        go_wp2_with ((with_reducible refine (varI HV.out p np.1 np.2 _).mono ?_);rintro e w2 ⟨rfl,hb⟩;have HB2:=zz hb;clear hb pc)
        go_roundg k2
        case measure=>omega
        case rel=>exact ⟨j+1,by rw [pacc_succ HPK.out,←HS2.out],by go_num,⟨by have:=HQ2.out;omega⟩,⟨by omega⟩,⟨BA.out.step HB2.out⟩⟩
      ·have d1:decide ((j:Int)<(el.f1.length:Int))=false:=decide_eq_false zq5
       have HJ:=zz (show j=el.f1.length by have:=HI2.out;omega)
       go_wp2
       go_roundg k1
       case measure=>omega
       case rel=>exact ⟨i+1,by rw [facc_succ HE.out,←HSE.out,ByteArray.append_assoc,←HS1.out,HS2.out,HJ.out,List.take_length],by go_num,⟨by have:=HQ.out;omega⟩,⟨by omega⟩,BA⟩
   ·have c1:decide ((i:Int)<(x.f3.length:Int))=false:=decide_eq_false zq5
    have hsb:s=mbody vt x:=by rw [HSE.out,show i=x.f3.length by have:=HI.out;omega,List.take_length];rfl
    have HSB:=zz hsb
    clear hsb
    obtain ⟨t0,ht0⟩:∃t0,t0=s++sl s:=⟨_,rfl⟩
    have HT0:=zz ht0
    have hsl4:(sl s).size≤4:=Nat.le_of_eq (HV.out.sz s)
    have hw:(240<t0.size∧t=⟨#[]⟩∧ok=false)∨(t0.size≤240∧t=t0∧ok=true):=by
     rcases HM.out with h|h|h
     ·exact absurd HO.out h.1
     ·exact .inl (by rw [ht0,HSB.out];exact h.2)
     ·exact .inr (by rw [ht0,HSB.out];exact h.2)
    clear ht0
    have zt:(9223372036854775807<s.size+(sl s).size)=False:=eq_false zq5
    rcases hw with ⟨h,rfl,rfl⟩|⟨h,he,rfl⟩
    ·have g1:decide (240<(t0.size:Int))=true:=decide_eq_true zq5
     have g2:decide (240<t0.size)=true:=decide_eq_true h
     have hq:t0.size=s.size+(sl s).size:=by rw [HT0.out,ByteArray.size_append]
     have g3:decide (240<(s.size:Int)+((sl s).size:Int))=true:=decide_eq_true zq5
     have g4:decide (240<s.size+(sl s).size)=true:=decide_eq_true zq5
     clear hq
     clear h
     go_wp2_with ((with_reducible refine (impl_seal.calls k s (sl s) _ (HV.out.sI s zq5)).mono ?_);rintro e w2 ⟨rfl,hb⟩;have HB2:=zz hb;clear hb)
     go_ret2
     exact ⟨by first|exact rt2 HT0.out.symm|rfl,zh BA.out.bel HB2.out⟩
    ·obtain rfl:t0=t:=he.symm
     have g1:decide (240<(t0.size:Int))=false:=decide_eq_false zq5
     have g2:decide (240<t0.size)=false:=decide_eq_false zq5
     have hq:t0.size=s.size+(sl s).size:=by rw [HT0.out,ByteArray.size_append]
     have g3:decide (240<(s.size:Int)+((sl s).size:Int))=false:=decide_eq_false zq5
     have g4:decide (240<s.size+(sl s).size)=false:=decide_eq_false zq5
     clear hq
     clear h
     go_wp2_with ((with_reducible refine (impl_seal.calls k s (sl s) _ (HV.out.sI s zq5)).mono ?_);rintro e w2 ⟨rfl,hb⟩;have HB2:=zz hb;clear hb)
     go_ret2
     exact ⟨by first|exact rt2 HT0.out.symm|rfl,zh BA.out.bel HB2.out⟩
 ·have HO:=zz hh
  obtain ⟨ht,hk⟩:t=⟨#[]⟩∧ok=false:=by
   rcases HM.out with h|h|h
   ·exact h.2
   ·exact absurd h.1 hh
   ·exact absurd h.1 hh
  subst ht
  subst hk
  clear hh
  go_enter Tryz.func92,Tryz.ntmps92
  go_wp2_with (first|((with_reducible refine zn (N:=9) rfl ?_);refine zA rfl 40 _ rfl w.heap.size 0 [] [.int .i64 x.f0,.int .i64 x.f1,.int .i64 x.f2,.slice AF x.f3.length cF] [] _ rfl BA.out.box rfl rfl Tryz.underlying40 rfl zq7 ?_)|((with_reducible refine (implMetaOk_c x false _ (k40.K_below BA.out.bel KM.out) ⟨fun h=>(by cases h),fun h=>absurd h HO.out⟩).mono ?_);rintro e w1 ⟨rfl,hb⟩;have BA1:=zz (BA.out.step hb);clear hb))
  go_ret2
  exact ⟨rfl,BA1.out.bel⟩
theorem implNM_w {k:Nat} {vt:Int→ByteArray} {sl:ByteArray→ByteArray} (T:TxF k vt sl) (x:S40) (l0:List ByteArray) (l1:List S110) (l2:Int) (l3 l4 l5:List Int) (n:Int) (t:ByteArray) (b:Bool) {cs:List Value} (w:World) (h:kTxn.K w (x,(l0,l1,l2,l3,l4,l5),n) cs) (hx:SmallM x) (hl:l3.length≤2000000∧l4.length≤2000000∧l5.length≤2000000) (hm:MTxt vt sl (nmM (wrap64 (x.f0+1)) n l2 x l3 l4 l5) t b):
  Calls Tryz.prog 45 #[.agg cs.toArray] w fun e w'=>∃ds:List Value,e= .returned (.tuple #[.agg ds.toArray,.bool b])∧k40.M w' w.heap.size (Fr w w') (if b=true then nmM (wrap64 (x.f0+1)) n l2 x l3 l4 l5 else ⟨0,0,0,[]⟩) ds∧Below w.heap.size w w':=by
 obtain ⟨cM,_,rfl,hM,cW,cI,rfl,hW,hI⟩:=h
 obtain rfl:cI=[.int .i64 n]:=hI
 obtain ⟨AF,cF,rfl,mF,rF⟩:=zEa hM
 obtain ⟨A0,c0,A1,c1,A3,c3,A4,c4,A5,c5,rfl,m0,r0,m1,r1,m3,r3,m4,r4,m5,r5⟩:=kWork_open hW
 simp only [List.cons_append,List.nil_append]
 have HTX:=zz (show wrap64 (x.f0+1)=wrap64 (x.f0+1) from rfl)
 have HM:=zz hm
 have HV:=zz T
 have KR:=zz rF
 have KU:=zz r3
 have KG:=zz (And.intro m4 r4)
 have KF:=zz r5
 have HX:=zz hx
 have bn:x.f3.length≤2000000:=hx.1
 have b3:=hl.1
 have b4:=hl.2.1
 have b5:=hl.2.2
 clear hM hW mF rF m0 r0 m1 r1 m3 r3 m4 r4 m5 r5 T hm hx hl
 go_enter Tryz.func45,Tryz.ntmps45
 go_upto_region 2 with (fail)
 obtain ⟨W1,hW1⟩:∃W1,W1=((w.alloc (.cells #[.int .i64 x.f0,.int .i64 x.f1,.int .i64 x.f2,.slice AF x.f3.length cF,.slice A0 l0.length c0,.slice A1 l1.length c1,.int .i64 l2,.slice A3 l3.length c3,.slice A4 l4.length c4,.slice A5 l5.length c5,.int .i64 n] 46)).alloc (.cells #[.int .i64 0,.int .i64 0,.int .i64 0,.slice none 0 0] 40)).alloc (.cells #[.int .i64 (wrap64 (x.f0+1)),.int .i64 n,.int .i64 l2,.slice none 0 0] 40):=⟨_,rfl⟩
 have HN:=zz (show NB w W1 [.int .i64 x.f0,.int .i64 x.f1,.int .i64 x.f2,.slice AF x.f3.length cF,.slice A0 l0.length c0,.slice A1 l1.length c1,.int .i64 l2,.slice A3 l3.length c3,.slice A4 l4.length c4,.slice A5 l5.length c5,.int .i64 n] (w.heap.size+1+1) [.int .i64 (wrap64 (x.f0+1)),.int .i64 n,.int .i64 l2] (.slice none 0 0) from by rw [hW1];exact nb0 w [.int .i64 x.f0,.int .i64 x.f1,.int .i64 x.f2,.slice AF x.f3.length cF,.slice A0 l0.length c0,.slice A1 l1.length c1,.int .i64 l2,.slice A3 l3.length c3,.slice A4 l4.length c4,.slice A5 l5.length c5,.int .i64 n] [.int .i64 (wrap64 (x.f0+1)),.int .i64 n,.int .i64 l2])
 rw [←hW1]
 clear hW1
 have hp3:W1.cell? ⟨w.heap.size,3,none⟩=some (.slice AF x.f3.length cF):=(zd HN.out.A 3).trans rfl
 go_wp2_with fail
 clear hp3
 go_loopg [27] (x.f3.length+1) (fun kq v27 w'=>∃(i:Nat) (v:Value),v27= .int .i64 (i:Int)∧Z0 (kq+i=x.f3.length+1)∧Z0 (i≤x.f3.length)∧Z0 (NB w w' [.int .i64 x.f0,.int .i64 x.f1,.int .i64 x.f2,.slice AF x.f3.length cF,.slice A0 l0.length c0,.slice A1 l1.length c1,.int .i64 l2,.slice A3 l3.length c3,.slice A4 l4.length c4,.slice A5 l5.length c5,.int .i64 n] (w.heap.size+1+1) [.int .i64 (wrap64 (x.f0+1)),.int .i64 n,.int .i64 l2] v)∧Z0 (Kd.S k112 112 w' w.heap.size (fun k=>w.heap.size+1+1<k) v (nmF l5 (x.f3.take i))))
 case atStart=>exact ⟨0,_,rfl,⟨by omega⟩,⟨Nat.zero_le _⟩,HN,⟨Kd.S_nil _ _ _ _ _⟩⟩
 case round=>
  clear HN
  obtain ⟨i,v,rfl,HQ,HI,HN,HS⟩:=hrel
  obtain ⟨fs,hfs⟩:∃fs,fs=nmF l5 (x.f3.take i):=⟨_,rfl⟩
  have hfl:fs.length≤2000000:=by
   have h1:=nmF_len l5 (x.f3.take i)
   have h2:=List.length_take_le i x.f3
   have h3:=HI.out
   rw [hfs]
   omega
  rw [←hfs] at HS
  have HFS:=zz hfs
  clear hfs
  obtain ⟨Av,cv,rfl⟩:=Kd.S_slice HS.out
  by_cases hlt:i<x.f3.length
  ·have e1:decide ((i:Int)<(x.f3.length:Int))=true:=decide_eq_true zq5
   have e0:decide ((0:Int)≤(i:Int))=true:=decide_eq_true zq5
   have e2:((i:Int)<(x.f3.length:Int))=True:=eq_true zq5
   have e3:((0:Int)≤(i:Int))=True:=eq_true zq5
   cases gk with
   |zero=>exact absurd HQ.out zq5
   |succ k1=>
    obtain ⟨ad,A1_,c1_,hA,z0,z1,hl4,hC4⟩:=zbb KR.out (i:Int) zq5 zq5
    subst hA
    obtain ⟨el,hel⟩:∃el,el=zH x.f3 (i:Int):=⟨_,rfl⟩
    have hel2:x.f3[i]?=some el:=by rw [hel];simp [zH,List.getD_eq_getElem?_getD,List.getElem?_eq_getElem hlt]
    rw [←hel] at z0 z1 hl4 hC4
    simp only [Int.toNat_natCast] at z0 z1
    replace z0:=zk z0 HN.out.bel
    replace z1:=zk z1 HN.out.bel
    have HE:=zz hel2
    have KE:=zz (And.intro hl4 hC4)
    have hle:el.f1.length≤2000000:=HX.out.2 el (List.mem_of_getElem? hel2)
    clear hel hel2 hC4 hl4
    go_upto_region 5 with (fail)
    obtain ⟨W1,hW1⟩:∃W1,W1=wr.alloc (.cells #[.int .i64 el.f0,.slice A1_ el.f1.length c1_] 112):=⟨_,rfl⟩
    have BF:=zz (show W1.heap[wr.heap.size]?=some (.cells ([.int .i64 el.f0,.slice A1_ el.f1.length c1_]:List Value).toArray 112 (0,0)) from by rw [hW1];exact zia wr _)
    have HB1:=zz (show Below wr.heap.size wr W1 from by rw [hW1];exact zf (Below.refl _ _) _)
    rw [←hW1]
    obtain ⟨gF,hgF⟩:∃g,g=wr.heap.size:=⟨_,rfl⟩
    have HS1:=zz (Kd.S_mono (Kd.S_below (Kd.S_bound HS.out) HB1.out) (ok':=fun k=>w.heap.size+1+1<k∧k<gF) (fun k hk=>⟨hk.1,by rw [hgF];exact hk.2.2.1⟩))
    have hGF:w.heap.size+1+1<gF:=by rw [hgF];exact zI HN.out.B
    replace HN:=zz (HN.out.step HB1.out)
    rw [←hgF] at BF ⊢
    clear hW1 z0 z1 hgF HB1 HS
    have hf1:W1.cell? ⟨gF,1,none⟩=some (.slice A1_ el.f1.length c1_):=(zd BF.out 1).trans rfl
    have KA:=zz (show (Own.arow 3 (Kd.int .i64)).K W1 el.f1 [.slice A1_ el.f1.length c1_] from ⟨_,_,rfl,KE.out.1,Kd.C_below KE.out.2 HN.out.bel⟩)
    obtain ⟨ps,hps⟩:∃ps,ps=el.f1.filter (kp l5):=⟨_,rfl⟩
    have HPS:=zz hps
    clear hps
    by_cases hpos:0<ps.length
    ·have d1:decide ((0:Int)<(ps.length:Int))=true:=decide_eq_true zq5
     have d2:decide (0<ps.length)=true:=decide_eq_true hpos
     go_wp2_with fail
     (with_reducible refine (cloneInts_c el.f1 _ KA.out hle).mono ?_)
     rintro e w2 ⟨u,rfl,M,hb⟩
     have HN2:=zz (HN.out.step hb)
     have BF2:=zz (zo BF.out hb)
     have HS2:=zz (Kd.S_below HS1.out hb)
     have RO2:=zz (Kd.R_mono (Kd.R_lower (own_of_S M) HN.out.bel.size) (ok':=fun k=>gF<k) (fun k hk=>Nat.lt_of_lt_of_le (zI BF.out) hk.1))
     obtain ⟨Au,cu,rfl⟩:=Kd.R_slice (own_of_S M)
     clear M hb
     have HFR:=zz (HN2.out.fr (fr:=l5) rfl KF.out (row:=(Value.slice Au el.f1.length cu).ownBlock) (fun k hk=>by have h_:gF<k:=RO2.out.1 k hk;omega))
     go_wp2_with fail
     (with_reducible refine (deleteFunc_c el.f1 l5 _ RO2.out HFR.out b5 hle).mono ?_)
     rintro e w3 ⟨A8,c8,rfl,hr,hg⟩
     rw [←HPS.out] at hr ⊢
     have RO3:=zz hr
     have HN3:=zz (HN2.out.grown hg (fun k hk=>by have h_:gF<k:=RO2.out.1 k hk;omega))
     have HS3:=zz (Kd.S_grown HS2.out hg (fun k hk e=>by have h_:gF<k:=RO2.out.1 k e.symm;omega))
     have BF3:=zz (zO BF2.out hg (fun e=>by have h_:gF<gF:=RO2.out.1 _ e.symm;omega))
     clear hr hg hf1
     have hg3:w3.cell? ⟨w.heap.size+1+1,3,none⟩=some (.slice Av fs.length cv):=(zd HN3.out.B 3).trans rfl
     have hf0:w3.cell? ⟨gF,0,none⟩=some (.int .i64 el.f0):=(zd BF3.out 0).trans rfl
     go_wp2_with (first|((with_reducible refine zS (b:= .append) (xs:= #[.tmp 40,.tmp 45]) rfl ?_);at_builtin;refine nm_app (p:=(⟨el.f0,ps⟩:S112)) (okp:=fun k=>gF<k) rfl (.tmp 40) (.tmp 45) rfl rfl rfl HN3.out (Kd.S_mono HS3.out (fun k hk=>⟨hk.1,by omega⟩)) (zgb _ _ _ (⟨el.f0,ps⟩:S112) RO3.out) (fun k hk=>by omega) hfl ?_;intro v1 w4 HN4 HS4;obtain ⟨A9,c9,rfl⟩:=Kd.S_slice HS4.out;obtain ⟨nn,hnn⟩:∃m,m=(fs++[(⟨el.f0,ps⟩:S112)]).length:=⟨_,rfl⟩;simp only [←hnn] at HS4 ⊢;clear hg3 hf0 hnn)|((with_reducible refine zE (t:=38) (p:=47) rfl ?_);refine zha rfl 38 _ _ rfl rfl (w.heap.size+1+1) 3 (.slice A9 nn c9) (.slice Av fs.length cv) [.int .i64 (wrap64 (x.f0+1)),.int .i64 n,.int .i64 l2] [] rfl rfl HN4.out.B rfl rfl zq7 rfl rfl ?_;intro W5 hp hn;have HN5:=zz (HN4.out.put hp hn);have HS5:=zz (putS HS4.out hp (fun k h e=>by omega));clear hp hn))
     go_roundg k1
     case measure=>omega
     case rel=>exact ⟨i+1,_,by go_num,⟨by have:=HQ.out;omega⟩,⟨by omega⟩,HN5,⟨by rw [nmF_succ l5 HE.out,←HFS.out,←HPS.out,if_pos hpos];exact HS5.out⟩⟩
    ·have d1:decide ((0:Int)<(ps.length:Int))=false:=decide_eq_false zq5
     have d2:decide (0<ps.length)=false:=decide_eq_false hpos
     go_wp2_with fail
     (with_reducible refine (cloneInts_c el.f1 _ KA.out hle).mono ?_)
     rintro e w2 ⟨u,rfl,M,hb⟩
     have HN2:=zz (HN.out.step hb)
     have BF2:=zz (zo BF.out hb)
     have HS2:=zz (Kd.S_below HS1.out hb)
     have RO2:=zz (Kd.R_mono (Kd.R_lower (own_of_S M) HN.out.bel.size) (ok':=fun k=>gF<k) (fun k hk=>Nat.lt_of_lt_of_le (zI BF.out) hk.1))
     obtain ⟨Au,cu,rfl⟩:=Kd.R_slice (own_of_S M)
     clear M hb
     have HFR:=zz (HN2.out.fr (fr:=l5) rfl KF.out (row:=(Value.slice Au el.f1.length cu).ownBlock) (fun k hk=>by have h_:gF<k:=RO2.out.1 k hk;omega))
     go_wp2_with fail
     (with_reducible refine (deleteFunc_c el.f1 l5 _ RO2.out HFR.out b5 hle).mono ?_)
     rintro e w3 ⟨A8,c8,rfl,hr,hg⟩
     rw [←HPS.out] at hr ⊢
     have RO3:=zz hr
     have HN3:=zz (HN2.out.grown hg (fun k hk=>by have h_:gF<k:=RO2.out.1 k hk;omega))
     have HS3:=zz (Kd.S_grown HS2.out hg (fun k hk e=>by have h_:gF<k:=RO2.out.1 k e.symm;omega))
     have BF3:=zz (zO BF2.out hg (fun e=>by have h_:gF<gF:=RO2.out.1 _ e.symm;omega))
     clear hr hg hf1
     have hg3:w3.cell? ⟨w.heap.size+1+1,3,none⟩=some (.slice Av fs.length cv):=(zd HN3.out.B 3).trans rfl
     have hf0:w3.cell? ⟨gF,0,none⟩=some (.int .i64 el.f0):=(zd BF3.out 0).trans rfl
     clear hg3 hf0
     go_wp2
     go_roundg k1
     case measure=>omega
     case rel=>exact ⟨i+1,_,by go_num,⟨by have:=HQ.out;omega⟩,⟨by omega⟩,HN3,⟨by rw [nmF_succ l5 HE.out,←HFS.out,←HPS.out,if_neg hpos,List.append_nil];exact Kd.S_mono HS3.out (fun k hk=>hk.1)⟩⟩
  ·have e1:decide ((i:Int)<(x.f3.length:Int))=false:=decide_eq_false zq5
   have hfx:fs=nmF l5 x.f3:=by rw [HFS.out,show i=x.f3.length by have:=HI.out;omega,List.take_length]
   have HFX:=zz hfx
   clear hfx
   have hA8:wr.cell? ⟨w.heap.size,8,none⟩=some (.slice A4 l4.length c4):=(zd HN.out.A 8).trans rfl
   have KA:=zz (show (Own.arow 3 (Kd.int .i64)).K wr l4 [.slice A4 l4.length c4] from ⟨_,_,rfl,KG.out.1,Kd.C_below KG.out.2 HN.out.bel⟩)
   go_wp2_with fail
   (with_reducible refine (cloneInts_c l4 _ KA.out b4).mono ?_)
   rintro e w2 ⟨u,rfl,M,hb⟩
   obtain ⟨T,hT⟩:∃T,T=wr.heap.size:=⟨_,rfl⟩
   have HS2:=zz (Kd.S_mono (Kd.S_below (Kd.S_bound HS.out) hb) (ok':=fun k=>w.heap.size+1+1<k∧k<T) (fun k hk=>⟨hk.1,by rw [hT];exact hk.2.2.1⟩))
   have HGT:=zz (show T≤w2.heap.size∧w.heap.size+1+1<T from ⟨by rw [hT];exact hb.size,by rw [hT];exact zI HN.out.B⟩)
   have HN2:=zz (HN.out.step hb)
   have RO2:=zz (Kd.R_mono (Kd.R_lower (own_of_S M) HN.out.bel.size) (ok':=fun k=>T≤k) (fun k hk=>by rw [hT];exact hk.1))
   clear M hb hT HN HS KA hA8 e1
   have hA7:w2.cell? ⟨w.heap.size,7,none⟩=some (.slice A3 l3.length c3):=(zd HN2.out.A 7).trans rfl
   go_wp2_with fail
   clear hA7
   go_loopg [8,57] (l3.length+1) (fun kq v8 v57 w'=>∃(j:Nat) (vo:Value),v8=vo∧v57= .int .i64 (j:Int)∧Z0 (kq+j=l3.length+1)∧Z0 (j≤l3.length)∧Z0 (NB w w' [.int .i64 x.f0,.int .i64 x.f1,.int .i64 x.f2,.slice AF x.f3.length cF,.slice A0 l0.length c0,.slice A1 l1.length c1,.int .i64 l2,.slice A3 l3.length c3,.slice A4 l4.length c4,.slice A5 l5.length c5,.int .i64 n] (w.heap.size+1+1) [.int .i64 (wrap64 (x.f0+1)),.int .i64 n,.int .i64 l2] (.slice Av fs.length cv))∧Z0 (Kd.S k112 112 w' w.heap.size (fun k=>w.heap.size+1+1<k∧k<T) (.slice Av fs.length cv) fs)∧Z0 (Kd.R (Kd.int .i64) 3 w' w.heap.size (fun k=>T≤k) vo (l4++(l3.take j).filter (fun p=>decide (x.f2≤p))))∧Z0 (T≤w'.heap.size∧w.heap.size+1+1<T))
   case atStart=>exact ⟨0,_,rfl,rfl,⟨by omega⟩,⟨Nat.zero_le _⟩,HN2,HS2,⟨by rw [List.take_zero,List.filter_nil,List.append_nil];exact RO2.out⟩,HGT⟩
   case round=>
    clear HN2 HS2 RO2 HGT
    obtain ⟨j,vo,rfl,rfl,HQ2,HJ,HN,HS,HO,HGT⟩:=hrel
    obtain ⟨xs,hxs⟩:∃xs,xs=l4++(l3.take j).filter (fun p=>decide (x.f2≤p)):=⟨_,rfl⟩
    have hxl:xs.length≤4000000:=by
     have h1:=List.length_filter_le (fun p=>decide (x.f2≤p)) (l3.take j)
     have h2:=List.length_take_le j l3
     have h3:=HJ.out
     rw [hxs,List.length_append]
     omega
    rw [←hxs] at HO
    have HXS:=zz hxs
    clear hxs
    obtain ⟨Ao,co,rfl⟩:=Kd.R_slice HO.out
    by_cases hlt:j<l3.length
    ·have d1:decide ((j:Int)<(l3.length:Int))=true:=decide_eq_true zq5
     have d0:decide ((0:Int)≤(j:Int))=true:=decide_eq_true zq5
     have d2:((j:Int)<(l3.length:Int))=True:=eq_true zq5
     have d3:((0:Int)≤(j:Int))=True:=eq_true zq5
     cases gk with
     |zero=>exact absurd HQ2.out zq5
     |succ k2=>
      obtain ⟨ap,hAp,pc⟩:=C_at KU.out hlt
      subst hAp
      obtain ⟨p,hp⟩:∃p,p=l3[j]:=⟨_,rfl⟩
      rw [←hp] at pc
      have HPK:=zz (show l3[j]?=some p from by rw [hp];exact List.getElem?_eq_getElem hlt)
      clear hp
      replace pc:=zk pc HN.out.bel
      have hA2:wr.cell? ⟨w.heap.size,2,none⟩=some (.int .i64 x.f2):=(zd HN.out.A 2).trans rfl
      by_cases hp:x.f2≤p
      ·have g1:decide (x.f2≤p)=true:=decide_eq_true hp
       go_wp2_with ((with_reducible refine zS (b:= .append) (xs:= #[.tmp 66,.tmp 68]) rfl ?_);at_builtin;refine own_app rfl (.tmp 66) (.tmp 68) rfl rfl rfl HN.out HS.out HO.out HGT.out hxl ?_;intro v1 w4 HN4 HS4 HO4 HT4;clear pc hA2)
       go_roundg k2
       case measure=>omega
       case rel=>exact ⟨j+1,_,rfl,by go_num,⟨by have:=HQ2.out;omega⟩,⟨by omega⟩,HN4,HS4,⟨by rw [own_succ x.f2 HPK.out,←HXS.out,if_pos hp];exact HO4.out⟩,⟨HT4.out,HGT.out.2⟩⟩
      ·have g1:decide (x.f2≤p)=false:=decide_eq_false hp
       go_wp2
       go_roundg k2
       case measure=>omega
       case rel=>exact ⟨j+1,_,rfl,by go_num,⟨by have:=HQ2.out;omega⟩,⟨by omega⟩,HN,HS,⟨by rw [own_succ x.f2 HPK.out,←HXS.out,if_neg zq5,List.append_nil];exact HO.out⟩,HGT⟩
    ·have d1:decide ((j:Int)<(l3.length:Int))=false:=decide_eq_false zq5
     have hsx:srt xs=nmOwn x.f2 l3 l4:=by rw [HXS.out,show j=l3.length by have:=HJ.out;omega,List.take_length];rfl
     have HSX:=zz hsx
     clear hsx
     go_wp2_with fail
     (with_reducible refine (sort_own (Kd.R_mono HO.out (fun _ _=>trivial)) hxl).mono ?_)
     rintro e w5 ⟨rfl,ho,hg⟩
     have hown:∀k,(Value.slice Ao xs.length co).ownBlock=some k→T≤k:=HO.out.1
     have HO5:=zz (R_ints ho hown)
     have HN5:=zz (HN.out.grown hg (fun k hk=>by have:=hown k hk;have:=HGT.out.2;omega))
     have HS5:=zz (Kd.S_grown HS.out hg (fun k hk e=>by have:=hown k e.symm;have:=hk.2;omega))
     have HG5:=zz HGT.out.2
     clear ho hg hown HO HN HS HGT d1
     have hg3:w5.cell? ⟨w.heap.size+1+1,3,none⟩=some (.slice Av fs.length cv):=(zd HN5.out.B 3).trans rfl
     have hg0:w5.cell? ⟨w.heap.size+1+1,0,none⟩=some (.int .i64 (wrap64 (x.f0+1))):=(zd HN5.out.B 0).trans rfl
     by_cases hpos:0<xs.length
     ·have g1:decide ((0:Int)<(xs.length:Int))=true:=decide_eq_true zq5
      have g2:decide (0<xs.length)=true:=decide_eq_true hpos
      have hmf:(nmM (wrap64 (x.f0+1)) n l2 x l3 l4 l5).f3=fs++[(⟨wrap64 (x.f0+1),srt xs⟩:S112)]:=by
       show nmF l5 x.f3++_=_
       rw [←HSX.out,←HFX.out,if_pos (by rw [srt_len];exact hpos)]
      have HMF:=zz hmf
      clear hmf
      go_upto_region 19 with (first|((with_reducible refine zS (b:= .append) (xs:= #[.tmp 77,.tmp 82]) rfl ?_);at_builtin;refine nm_app (p:=(⟨wrap64 (x.f0+1),srt xs⟩:S112)) (okp:=fun k=>T≤k) rfl (.tmp 77) (.tmp 82) rfl rfl rfl HN5.out (Kd.S_mono HS5.out (fun k hk=>⟨hk.1,by omega⟩)) (zgb _ _ _ (⟨wrap64 (x.f0+1),srt xs⟩:S112) HO5.out) (fun k hk=>by have:=HG5.out;omega) hfl ?_;intro v1 w6 HN6 HS6;obtain ⟨A9,c9,rfl⟩:=Kd.S_slice HS6.out;obtain ⟨nn,hnn⟩:∃m,m=(fs++[(⟨wrap64 (x.f0+1),srt xs⟩:S112)]).length:=⟨_,rfl⟩;simp only [←hnn] at HS6 ⊢;clear hg3 hg0;have HNN:=zz hnn;clear hnn)|((with_reducible refine zE (t:=38) (p:=84) rfl ?_);refine zha rfl 38 _ _ rfl rfl (w.heap.size+1+1) 3 (.slice A9 nn c9) (.slice Av fs.length cv) [.int .i64 (wrap64 (x.f0+1)),.int .i64 n,.int .i64 l2] [] rfl rfl HN6.out.B rfl rfl zq7 rfl rfl ?_;intro W7 hp hn;have HN7:=zz (HN6.out.put hp hn);have HS7:=zz (putS HS6.out hp (fun k h e=>by omega));clear hp hn))
      have hsl:=Kd.S_reads' HS7.out
      obtain ⟨hs1,hs2,hs3⟩:=hsl
      have HK:=zz (show k40.K W7 (nmM (wrap64 (x.f0+1)) n l2 x l3 l4 l5) [.int .i64 (wrap64 (x.f0+1)),.int .i64 n,.int .i64 l2,.slice A9 nn c9] from by have h:=k40_mk (A3:=A9) (c3:=c9) W7 (nmM (wrap64 (x.f0+1)) n l2 x l3 l4 l5) (by rw [HMF.out,←hs1];exact hs2) (by rw [HMF.out];exact hs3);rwa [HMF.out,←hs1] at h)
      have HSM:=zz (show Kd.S k112 112 W7 w.heap.size (fun k=>w.heap.size+1+1<k) (.slice A9 nn c9) (nmM (wrap64 (x.f0+1)) n l2 x l3 l4 l5).f3 from by rw [HMF.out];exact HS7.out)
      clear hs1 hs2 hs3
      cases b with
      |false=>
       go_wp2_with (first|((with_reducible refine zn (N:=86) rfl ?_);refine zA rfl 40 _ rfl (w.heap.size+1+1) 0 [] [.int .i64 (wrap64 (x.f0+1)),.int .i64 n,.int .i64 l2,.slice A9 nn c9] [] _ rfl HN7.out.B rfl rfl Tryz.underlying40 rfl zq7 ?_)|((with_reducible refine (zNa HV.out _ t false _ HK.out HM.out).mono ?_);rintro e w8 ⟨rfl,hb⟩;have HN8:=zz (HN7.out.step hb);have HS8:=zz (Kd.S_below HSM.out hb);clear hb)|((with_reducible refine zE (t:=40) (p:=2) rfl ?_);refine zK rfl 40 _ _ rfl rfl (w.heap.size+1) 0 [.int .i64 0,.int .i64 0,.int .i64 0,.slice none 0 0] [] [.int .i64 0,.int .i64 0,.int .i64 0,.slice none 0 0] [] rfl rfl HN8.out.R rfl rfl rfl zq7 (fun v hv=>by simp only [List.mem_cons,List.not_mem_nil,or_false] at hv;rcases hv with rfl|rfl|rfl|rfl<;>rfl) ?_;intro W9 hp hn;have HR9:=zz hn;have HP9:=zz hp;clear hp hn))
       refine bodyPost_ret (zM (rs:=[.cell 2 40,.tmp 3]) rfl zq16 (.cell (w.heap.size+1) 40 _ _ _ rfl HR9.out Tryz.underlying40 rfl zq7 (.tmp .nil))) rfl ?_
       have hb9:=HP9.out.below w zq5 HN8.out.bel
       exact ⟨_,rfl,zcb _ _ _ (⟨0,0,0,[]⟩:S40) (Kd.S_nil _ _ _ _ _),hb9⟩
      |true=>
       go_wp2_with (first|((with_reducible refine zn (N:=86) rfl ?_);refine zA rfl 40 _ rfl (w.heap.size+1+1) 0 [] [.int .i64 (wrap64 (x.f0+1)),.int .i64 n,.int .i64 l2,.slice A9 nn c9] [] _ rfl HN7.out.B rfl rfl Tryz.underlying40 rfl zq7 ?_)|((with_reducible refine (zNa HV.out _ t true _ HK.out HM.out).mono ?_);rintro e w8 ⟨rfl,hb⟩;have HN8:=zz (HN7.out.step hb);have HS8:=zz (Kd.S_below HSM.out hb);clear hb)|((with_reducible refine zn (N:=93) rfl ?_);refine zA rfl 40 _ rfl (w.heap.size+1+1) 0 [] [.int .i64 (wrap64 (x.f0+1)),.int .i64 n,.int .i64 l2,.slice A9 nn c9] [] _ rfl HN8.out.B rfl rfl Tryz.underlying40 rfl zq7 ?_)|((with_reducible refine zE (t:=40) (p:=2) rfl ?_);refine zK rfl 40 _ _ rfl rfl (w.heap.size+1) 0 [.int .i64 (wrap64 (x.f0+1)),.int .i64 n,.int .i64 l2,.slice A9 nn c9] [] [.int .i64 0,.int .i64 0,.int .i64 0,.slice none 0 0] [] rfl rfl HN8.out.R rfl rfl rfl zq7 (fun v hv=>by simp only [List.mem_cons,List.not_mem_nil,or_false] at hv;rcases hv with rfl|rfl|rfl|rfl<;>rfl) ?_;intro W9 hp hn;have HR9:=zz hn;have HP9:=zz hp;clear hp hn))
       refine bodyPost_ret (zM (rs:=[.cell 2 40,.tmp 3]) rfl zq16 (.cell (w.heap.size+1) 40 _ _ _ rfl HR9.out Tryz.underlying40 rfl zq7 (.tmp .nil))) rfl ?_
       have hb9:=HP9.out.below w zq5 HN8.out.bel
       have hS:=putS HS8.out HP9.out (fun k h e=>by omega)
       exact ⟨_,rfl,zcb _ _ _ (nmM (wrap64 (x.f0+1)) n l2 x l3 l4 l5) (Kd.S_mono (Kd.S_bound hS) (fun k hk=>⟨hk.2.1,hk.2.2.1⟩)),hb9⟩
     ·have g1:decide ((0:Int)<(xs.length:Int))=false:=decide_eq_false zq5
      have g2:decide (0<xs.length)=false:=decide_eq_false hpos
      have hmf:(nmM (wrap64 (x.f0+1)) n l2 x l3 l4 l5).f3=fs:=by
       show nmF l5 x.f3++_=_
       rw [←HSX.out,←HFX.out,if_neg (by rw [srt_len];exact hpos),List.append_nil]
      have HMF:=zz hmf
      clear hmf
      go_upto_region 19 with (fail)
      clear hg3 hg0
      have hsl:=Kd.S_reads' HS5.out
      obtain ⟨hs1,hs2,hs3⟩:=hsl
      have HK:=zz (show k40.K w5 (nmM (wrap64 (x.f0+1)) n l2 x l3 l4 l5) [.int .i64 (wrap64 (x.f0+1)),.int .i64 n,.int .i64 l2,.slice Av fs.length cv] from by have h:=k40_mk (A3:=Av) (c3:=cv) w5 (nmM (wrap64 (x.f0+1)) n l2 x l3 l4 l5) (by rw [HMF.out];exact hs2) (by rw [HMF.out];exact hs3);rwa [HMF.out] at h)
      have HSM:=zz (show Kd.S k112 112 w5 w.heap.size (fun k=>w.heap.size+1+1<k) (.slice Av fs.length cv) (nmM (wrap64 (x.f0+1)) n l2 x l3 l4 l5).f3 from by rw [HMF.out];exact Kd.S_mono HS5.out (fun k hk=>hk.1))
      clear hs1 hs2 hs3
      cases b with
      |false=>
       go_wp2_with (first|((with_reducible refine zn (N:=86) rfl ?_);refine zA rfl 40 _ rfl (w.heap.size+1+1) 0 [] [.int .i64 (wrap64 (x.f0+1)),.int .i64 n,.int .i64 l2,.slice Av fs.length cv] [] _ rfl HN5.out.B rfl rfl Tryz.underlying40 rfl zq7 ?_)|((with_reducible refine (zNa HV.out _ t false _ HK.out HM.out).mono ?_);rintro e w8 ⟨rfl,hb⟩;have HN8:=zz (HN5.out.step hb);have HS8:=zz (Kd.S_below HSM.out hb);clear hb)|((with_reducible refine zE (t:=40) (p:=2) rfl ?_);refine zK rfl 40 _ _ rfl rfl (w.heap.size+1) 0 [.int .i64 0,.int .i64 0,.int .i64 0,.slice none 0 0] [] [.int .i64 0,.int .i64 0,.int .i64 0,.slice none 0 0] [] rfl rfl HN8.out.R rfl rfl rfl zq7 (fun v hv=>by simp only [List.mem_cons,List.not_mem_nil,or_false] at hv;rcases hv with rfl|rfl|rfl|rfl<;>rfl) ?_;intro W9 hp hn;have HR9:=zz hn;have HP9:=zz hp;clear hp hn))
       refine bodyPost_ret (zM (rs:=[.cell 2 40,.tmp 3]) rfl zq16 (.cell (w.heap.size+1) 40 _ _ _ rfl HR9.out Tryz.underlying40 rfl zq7 (.tmp .nil))) rfl ?_
       have hb9:=HP9.out.below w zq5 HN8.out.bel
       exact ⟨_,rfl,zcb _ _ _ (⟨0,0,0,[]⟩:S40) (Kd.S_nil _ _ _ _ _),hb9⟩
      |true=>
       go_wp2_with (first|((with_reducible refine zn (N:=86) rfl ?_);refine zA rfl 40 _ rfl (w.heap.size+1+1) 0 [] [.int .i64 (wrap64 (x.f0+1)),.int .i64 n,.int .i64 l2,.slice Av fs.length cv] [] _ rfl HN5.out.B rfl rfl Tryz.underlying40 rfl zq7 ?_)|((with_reducible refine (zNa HV.out _ t true _ HK.out HM.out).mono ?_);rintro e w8 ⟨rfl,hb⟩;have HN8:=zz (HN5.out.step hb);have HS8:=zz (Kd.S_below HSM.out hb);clear hb)|((with_reducible refine zn (N:=93) rfl ?_);refine zA rfl 40 _ rfl (w.heap.size+1+1) 0 [] [.int .i64 (wrap64 (x.f0+1)),.int .i64 n,.int .i64 l2,.slice Av fs.length cv] [] _ rfl HN8.out.B rfl rfl Tryz.underlying40 rfl zq7 ?_)|((with_reducible refine zE (t:=40) (p:=2) rfl ?_);refine zK rfl 40 _ _ rfl rfl (w.heap.size+1) 0 [.int .i64 (wrap64 (x.f0+1)),.int .i64 n,.int .i64 l2,.slice Av fs.length cv] [] [.int .i64 0,.int .i64 0,.int .i64 0,.slice none 0 0] [] rfl rfl HN8.out.R rfl rfl rfl zq7 (fun v hv=>by simp only [List.mem_cons,List.not_mem_nil,or_false] at hv;rcases hv with rfl|rfl|rfl|rfl<;>rfl) ?_;intro W9 hp hn;have HR9:=zz hn;have HP9:=zz hp;clear hp hn))
       refine bodyPost_ret (zM (rs:=[.cell 2 40,.tmp 3]) rfl zq16 (.cell (w.heap.size+1) 40 _ _ _ rfl HR9.out Tryz.underlying40 rfl zq7 (.tmp .nil))) rfl ?_
       have hb9:=HP9.out.below w zq5 HN8.out.bel
       have hS:=putS HS8.out HP9.out (fun k h e=>by omega)
       exact ⟨_,rfl,zcb _ _ _ (nmM (wrap64 (x.f0+1)) n l2 x l3 l4 l5) (Kd.S_mono (Kd.S_bound hS) (fun k hk=>⟨hk.2.1,hk.2.2.1⟩)),hb9⟩
def ImplNM (k:Nat) (d:(S40×(List ByteArray×List S110×Int×List Int×List Int×List Int)×Int)) (z:S40) (b:Bool):Prop:=∃(vt:Int→ByteArray) (sl:ByteArray→ByteArray) (t:ByteArray),TxF k vt sl∧SmallM d.1∧(d.2.1.2.2.2.1.length≤2000000∧d.2.1.2.2.2.2.1.length≤2000000∧d.2.1.2.2.2.2.2.length≤2000000)∧MTxt vt sl (nmM (wrap64 (d.1.f0+1)) d.2.2 d.2.1.2.2.1 d.1 d.2.1.2.2.2.1 d.2.1.2.2.2.2.1 d.2.1.2.2.2.2.2) t b∧z=(if b=true then nmM (wrap64 (d.1.f0+1)) d.2.2 d.2.1.2.2.1 d.1 d.2.1.2.2.2.1 d.2.1.2.2.2.2.1 d.2.1.2.2.2.2.2 else ⟨0,0,0,[]⟩)
theorem implNM_c (k:Nat) (d:(S40×(List ByteArray×List S110×Int×List Int×List Int×List Int)×Int)) (z:S40) (b:Bool) {cs:List Value} (w:World) (h:kTxn.K w d cs) (hf:ImplNM k d z b):
  Calls Tryz.prog 45 #[.agg cs.toArray] w fun e w'=>∃ds:List Value,e= .returned (.tuple #[.agg ds.toArray,.bool b])∧k40.M w' w.heap.size (Fr w w') z ds∧Below w.heap.size w w':=by
 obtain ⟨x,⟨l0,l1,l2,l3,l4,l5⟩,n⟩:=d
 obtain ⟨vt,sl,t,T,hx,hl,hm,rfl⟩:=hf
 exact implNM_w T x l0 l1 l2 l3 l4 l5 n t b w h hx hl hm
def SpecNM (k:Nat) (d:(S40×(List ByteArray×List S110×Int×List Int×List Int×List Int)×Int)) (z:S40) (b:Bool):Prop:=∃(vt:Int→ByteArray) (sl:ByteArray→ByteArray) (tx:Int) (t:ByteArray),TxF k vt sl∧SmallM d.1∧(d.2.1.2.2.2.1.length≤2000000∧d.2.1.2.2.2.2.1.length≤2000000∧d.2.1.2.2.2.2.2.length≤2000000)∧((d.1.f0<100001∧tx=wrap64 (d.1.f0+1))∨(¬d.1.f0<100001∧tx=d.1.f0))∧MTxt vt sl (nmM tx d.2.2 d.2.1.2.2.1 d.1 d.2.1.2.2.2.1 d.2.1.2.2.2.2.1 d.2.1.2.2.2.2.2) t b∧z=(if b=true then nmM tx d.2.2 d.2.1.2.2.1 d.1 d.2.1.2.2.2.1 d.2.1.2.2.2.2.1 d.2.1.2.2.2.2.2 else ⟨0,0,0,[]⟩)
theorem specNM_c (k:Nat) (d:(S40×(List ByteArray×List S110×Int×List Int×List Int×List Int)×Int)) (z:S40) (b:Bool) {cs:List Value} (w:World) (h:kTxn.K w d cs) (hf:SpecNM k d z b):
  Calls Tryz.prog 35 #[.agg cs.toArray] w fun e w'=>∃ds:List Value,e= .returned (.tuple #[.agg ds.toArray,.bool b])∧k40.M w' w.heap.size (Fr w w') z ds∧Below w.heap.size w w':=by
 obtain ⟨x,⟨l0,l1,l2,l3,l4,l5⟩,n⟩:=d
 obtain ⟨vt,sl,tx,t,T,hx,hl,htx,hm,rfl⟩:=hf
 exact specNM_w T x l0 l1 l2 l3 l4 l5 n tx htx t b w h hx hl hm
@[reducible] def EqMeta (k:Nat) (z:S40):Prop:=eqMeta_c_f k z z=some true
@[reducible] def HeldMeta (k:Nat) (z:S40) (a r:Int):Prop:=heldMeta_c_f k z a=some r
def MarkMeta (k:Nat) (z:S40) (a:Int) (z':S40) (r:Int):Prop:=markF.l0 k z.f3 a 0=some (r,z'.f3)∧z'=(⟨z.f0,z.f1,z.f2,z'.f3⟩:S40)
theorem markMeta_c (k:Nat) (z:S40) (a:Int) (z':S40) (r:Int) (ok:Nat→Prop) {cs:List Value} (w0 w:World) (hB:Below w0.heap.size w0 w) (hk:∀k,ok k→k<w.heap.size) (h:k40.M w w0.heap.size ok z cs) (hf:MarkMeta k z a z' r):
  Calls Tryz.prog 15 #[.agg cs.toArray,.int .i64 a] w fun e w'=>e= .returned (.int .i64 r)∧k40.M w' w0.heap.size ok z' cs∧Below w0.heap.size w0 w'∧Kept w w' ok:=by
 obtain ⟨h1,e⟩:=hf
 rw [e]
 exact markMeta_o k z a r z'.f3 ok w0 w hB hk h h1
def MarkTxn (k:Nat) (z:(S40×(List ByteArray×List S110×Int×List Int×List Int×List Int)×Int)) (a:Int) (z':(S40×(List ByteArray×List S110×Int×List Int×List Int×List Int)×Int)) (r:Int):Prop:=∃b t1 t2 t3:Int,markF.l0 k z.1.f3 a 0=some (b,z'.1.f3)∧laws_markDisk.f k z.2.1.1 z.2.1.2.1 b=some (t1,z'.2.1.1,z'.2.1.2.1)∧laws_markIntS.f k z.2.1.2.2.2.1 t1=some (t2,z'.2.1.2.2.2.1)∧laws_markIntS.f k z.2.1.2.2.2.2.1 t2=some (t3,z'.2.1.2.2.2.2.1)∧laws_markIntS.f k z.2.1.2.2.2.2.2 t3=some (r,z'.2.1.2.2.2.2.2)∧
 z'=((⟨z.1.f0,z.1.f1,z.1.f2,z'.1.f3⟩:S40),(z'.2.1.1,z'.2.1.2.1,z.2.1.2.2.1,z'.2.1.2.2.2.1,z'.2.1.2.2.2.2.1,z'.2.1.2.2.2.2.2),z.2.2)
theorem markTxn_c (k:Nat) (z:(S40×(List ByteArray×List S110×Int×List Int×List Int×List Int)×Int)) (a:Int) (z':(S40×(List ByteArray×List S110×Int×List Int×List Int×List Int)×Int)) (r:Int) (ok:Nat→Prop) {cs:List Value} (w0 w:World) (hB:Below w0.heap.size w0 w) (hk:∀k,ok k→k<w.heap.size) (h:kTxn.M w w0.heap.size ok z cs) (hf:MarkTxn k z a z' r):
  Calls Tryz.prog 13 #[.agg cs.toArray,.int .i64 a] w fun e w'=>e= .returned (.int .i64 r)∧kTxn.M w' w0.heap.size ok z' cs∧Below w0.heap.size w0 w'∧Kept w w' ok:=by
 obtain ⟨b,t1,t2,t3,f1,g1,g2,g3,g4,e⟩:=hf
 rw [e]
 obtain ⟨x,⟨l0,l1,l2,l3,l4,l5⟩,n⟩:=z
 exact markTxn_o k x l0 l1 l2 l3 l4 l5 n a b t1 t2 t3 r _ _ _ _ _ _ ok w0 w hB hk h f1 g1 g2 g3 g4
def INtr (x:(S24×(List ByteArray×List S156×Int×List Int×List Int×List Int)×Int)):Prop:=x.1.f0≤9223372036854775807∧INm x.1.f3∧INd x.2.1.1 x.2.1.2.1∧INi x.2.1.2.2.2.1∧INi x.2.1.2.2.2.2.1∧INi x.2.1.2.2.2.2.2
def OKtl (a:(S24×(List ByteArray×List S156×Int×List Int×List Int×List Int)×Int)):Prop:=a.1.f0≤9223372036854775807∧OKm a.1.f3∧Small a.2.1.1 a.2.1.2.1∧a.2.1.2.2.2.1.length≤1048576∧a.2.1.2.2.2.2.1.length≤1048576∧a.2.1.2.2.2.2.2.length≤1048576
def OKt (d:(S40×(List ByteArray×List S110×Int×List Int×List Int×List Int)×Int)):Prop:=d.1.f0≤9223372036854775807∧OKn d.1.f3∧(d.2.1.1.length≤1048576∧d.2.1.2.1.length≤1048576)∧d.2.1.2.2.2.1.length≤1048576∧d.2.1.2.2.2.2.1.length≤1048576∧d.2.1.2.2.2.2.2.length≤1048576
def convT (a:(S24×(List ByteArray×List S156×Int×List Int×List Int×List Int)×Int)):(S40×(List ByteArray×List S110×Int×List Int×List Int×List Int)×Int):=(convM a.1,(a.2.1.1,a.2.1.2.1.map conv,a.2.1.2.2.1,a.2.1.2.2.2.1,a.2.1.2.2.2.2.1,a.2.1.2.2.2.2.2),a.2.2)
theorem sz_txn (a:(S24×(List ByteArray×List S156×Int×List Int×List Int×List Int)×Int)) (h:INtr a):∃r,Ev (fun k=>szTxn_c_f k a 1048576) r∧(r<0∨(¬r<0∧OKtl a)):=by
 obtain ⟨y,⟨l0,l1,l2,l3,l4,l5⟩,n⟩:=a
 obtain ⟨h0,h4,h5,h6,h7,h8⟩:=h
 obtain ⟨r,e,h⟩:=szTx y.f0 y.f1 y.f2 y.f3 l0 l1 l2 l3 l4 l5 n h4 h5 h6 h7 h8 1048576 zq5 zq5
 refine ⟨r,e,?_⟩
 rcases h with h|⟨g0,_,g⟩
 ·exact .inl h
 ·exact .inr ⟨by omega,h0,g⟩
theorem to_txn (a:(S24×(List ByteArray×List S156×Int×List Int×List Int×List Int)×Int)) (h:OKtl a):EvP (fun k=>ToTxn k a (convT a))∧OKt (convT a):=by
 obtain ⟨h0,h4,h5,h6,h7,h8⟩:=h
 have hW:EvP (fun k=>ToWork k a.2.1 (convT a).2.1):=((EvP.of (toD_ev _ _ h5)).and ((EvP.now rfl).and ((EvP.of (toI_ev _ h6)).and ((EvP.of (toI_ev _ h7)).and (EvP.of (toI_ev _ h8)))))).imp (fun k h=>h)
 refine ⟨((EvP.of (toM_ev _ _ _ _ h4.1 h4.2)).and (hW.and (EvP.now rfl))).imp (fun k h=>h),?_⟩
 exact ⟨h0,OKn_conv h4,⟨h5.1.1,by show (a.2.1.2.1.map conv).length≤_;rw [List.length_map];exact h5.2.1⟩,h6,h7,h8⟩
theorem eq_meta (x:S40) (h:OKn x.f3):EvP (fun k=>EqMeta k x):=EvP.of (eqM_ev x.f0 x.f1 x.f2 x.f3 h.1 h.2)
theorem eq_txn (d:(S40×(List ByteArray×List S110×Int×List Int×List Int×List Int)×Int)) (h:OKt d):EvP (fun k=>EqTxn k d):=by
 obtain ⟨y,⟨l0,l1,l2,l3,l4,l5⟩,n⟩:=d
 obtain ⟨h0,h4,h5,h6,h7,h8⟩:=h
 have g:=fun {n:Nat} (h:n≤1048576)=>Nat.le_trans h (show 1048576≤2000000 by decide)
 exact ((EvP.of (eqM_ev y.f0 y.f1 y.f2 y.f3 h4.1 h4.2)).and ((EvP.of (eqD_ev l0 l1 (g h5.1) (g h5.2))).and ((EvP.of (eqI_ev l3 (g h6))).and ((EvP.of (eqI_ev l4 (g h7))).and (EvP.of (eqI_ev l5 (g h8))))))).imp (fun k h=>h)
theorem mark_txn (d:(S40×(List ByteArray×List S110×Int×List Int×List Int×List Int)×Int)) (h:OKt d):∃d' mk,EvP (fun k=>MarkTxn k d 1 d' mk)∧¬mk<0:=by
 obtain ⟨y,⟨l0,l1,l2,l3,l4,l5⟩,n⟩:=d
 obtain ⟨h0,h4,h5,h6,h7,h8⟩:=h
 have b4:y.f3.length≤1048576:=h4.1
 have b5:l0.length≤1048576:=h5.1
 have b6:l1.length≤1048576:=h5.2
 have b7:l3.length≤1048576:=h6
 have b8:l4.length≤1048576:=h7
 have b9:l5.length≤1048576:=h8
 obtain ⟨gr,c4,c40,c41,m4,d4⟩:=mhF_ev y.f3 1 zq5 zq5 h4
 obtain ⟨u4,hu4⟩:∃u:Int,u=1+c4:=⟨_,rfl⟩
 rw [←hu4] at m4 d4
 obtain ⟨p',q',m5,d5⟩:=mhD_ev l0 l1 u4 zq5 zq5 zq5 zq5
 obtain ⟨u5,hu5⟩:∃u:Int,u=u4+l0.length+2*l1.length:=⟨_,rfl⟩
 rw [←hu5] at m5 d5
 obtain ⟨s3,m6,d6⟩:=mhI_ev l3 u5 zq5 zq5 zq5
 obtain ⟨u6,hu6⟩:∃u:Int,u=u5+l3.length:=⟨_,rfl⟩
 rw [←hu6] at m6 d6
 obtain ⟨s4,m7,d7⟩:=mhI_ev l4 u6 zq5 zq5 zq5
 obtain ⟨u7,hu7⟩:∃u:Int,u=u6+l4.length:=⟨_,rfl⟩
 rw [←hu7] at m7 d7
 obtain ⟨s5,m8,d8⟩:=mhI_ev l5 u7 zq5 zq5 zq5
 obtain ⟨u8,hu8⟩:∃u:Int,u=u7+l5.length:=⟨_,rfl⟩
 rw [←hu8] at m8 d8
 refine ⟨(⟨y.f0,y.f1,y.f2,gr⟩,(p',q',l2,s3,s4,s5),n),u8,?_,by omega⟩
 refine ((EvP.of m4).and ((EvP.of m5).and ((EvP.of m6).and ((EvP.of m7).and (EvP.of m8))))).imp ?_
 rintro k ⟨f4,f5,f6,f7,f8⟩
 exact ⟨u4,u5,u6,u7,f4,f5,f6,f7,f8,rfl⟩
theorem mt_ex_ (vt:Int→ByteArray) (sl:ByteArray→ByteArray) (x:S40):∃t b,MTxt vt sl x t b∧(b=true→MOk x):=by
 by_cases h:MOk x
 ·by_cases g:240<(mbody vt x++sl (mbody vt x)).size
  ·exact ⟨_,_,.inr (.inl ⟨h,g,rfl,rfl⟩),fun h=>by cases h⟩
  ·exact ⟨_,_,.inr (.inr ⟨h,by omega,rfl,rfl⟩),fun _=>h⟩
 ·exact ⟨_,_,.inl ⟨h,rfl,rfl⟩,fun h=>by cases h⟩
theorem MOk.okn {x:S40} (h:MOk x):OKn x.f3:=by
 have:=h.len
 exact ⟨by omega,fun s hs=>by have:=h.le40 s hs;omega⟩
theorem cloneM_go (l:List S112) (f0 f1 f2:Int) (hl:l.length≤1048576) (hs:∀s∈l,s.f1.length≤1048576):∀(n i:Nat),i+n=l.length→Ev (fun k=>impl_cloneMeta.l0 k (l.take i) l (l.length:Int) (i:Int) f0 f1 f2 l) (f0,f1,f2,l):=by
 intro n
 induction n with
 |zero=>
  intro i hi
  refine Ev.step (f:=fun _=>some (f0,f1,f2,l)) (fun k=> ?_) (Ev.now _)
  rw [impl_cloneMeta.l0,if_neg zq5,List.take_of_length_le zq5]
 |succ n ih=>
  intro i hi
  have hlt:i<l.length:=by omega
  have hsi:=hs _ (List.getElem_mem hlt)
  refine Ev.step (f:=fun k=>impl_cloneMeta.l0 k (l.take (i+1)) l (l.length:Int) ((i+1:Nat):Int) f0 f1 f2 l) (fun k=> ?_) (ih (i+1) zq5)
  rw [impl_cloneMeta.l0,if_pos zq5,if_pos zq5,if_pos zq5,zGb _ _ hlt]
  unfold slices_Clone_int_int.f
  rw [if_pos zq5,Option.bind_some,if_pos (by rw [List.length_take];omega),zP zq5 zq5,List.take_succ_eq_append_getElem hlt]
  rfl
theorem cloneM_ev (x:S40) (h:OKn x.f3):Ev (fun k=>impl_cloneMeta.f k x.f0 x.f1 x.f2 x.f3) (x.f0,x.f1,x.f2,x.f3):=cloneM_go x.f3 x.f0 x.f1 x.f2 h.1 h.2 x.f3.length 0 zq5
theorem sync_go (p:List ByteArray) (q:List S110) (hp:p.length≤2000000) (hq:q.length≤2000000):∀(n i:Nat) (e:List ByteArray),i+n=q.length→e.length=p.length→∃e',Ev (fun k=>spec_SyncDisk.l0 k (i:Int) p q e) (e',[])∧Ev (fun k=>impl_SyncDisk.l0 k q (q.length:Int) (i:Int) p q e q) (e',[])∧e'.length=p.length:=by
 intro n
 induction n with
 |zero=>
  intro i e hi he
  refine ⟨e,Ev.step (f:=fun _=>some (e,[])) (fun k=> ?_) (Ev.now _),Ev.step (f:=fun _=>some (e,[])) (fun k=> ?_) (Ev.now _),he⟩
  ·rw [spec_SyncDisk.l0,if_neg zq5]
  ·rw [impl_SyncDisk.l0,if_neg zq5]
 |succ n ih=>
  intro i e hi he
  have hlt:i<q.length:=by omega
  have w1:wrap64 ((p.length:Int)-1)=(p.length:Int)-1:=zP zq5 zq5
  have w2:wrap64 ((i:Int)+1)=((i+1:Nat):Int):=by rw [zP zq5 zq5];omega
  by_cases hx:0≤q[i].f0∧q[i].f0≤(p.length:Int)-1
  ·obtain ⟨e',e1,e2,e3⟩:=ih (i+1) (e.set q[i].f0.toNat q[i].f1) zq5 (by rw [List.length_set];exact he)
   refine ⟨e',Ev.step (f:=fun k=>spec_SyncDisk.l0 k ((i+1:Nat):Int) p q (e.set q[i].f0.toNat q[i].f1)) (fun k=> ?_) e1,Ev.step (f:=fun k=>impl_SyncDisk.l0 k q (q.length:Int) ((i+1:Nat):Int) p q (e.set q[i].f0.toNat q[i].f1) q) (fun k=> ?_) e2,e3⟩
   ·rw [spec_SyncDisk.l0,if_pos zq5,if_pos zq5,rd135 _ _ hlt,w1,w2]
    unfold spec_l01In.f
    rw [if_pos (show q[i].f0≥0 from hx.1),Option.bind_some,if_pos (by simpa using hx.2),if_pos hx.1,if_pos zq5]
   ·rw [impl_SyncDisk.l0,if_pos zq5,if_pos zq5,if_pos zq5,rd135 _ _ hlt,w2]
    unfold impl_isPage.f impl_in.f
    rw [w1,if_pos (show q[i].f0≥0 from hx.1),Option.bind_some,Option.bind_some,if_pos (by simpa using hx.2),if_pos hx.1,if_pos zq5]
  ·obtain ⟨e',e1,e2,e3⟩:=ih (i+1) e zq5 he
   refine ⟨e',Ev.step (f:=fun k=>spec_SyncDisk.l0 k ((i+1:Nat):Int) p q e) (fun k=> ?_) e1,Ev.step (f:=fun k=>impl_SyncDisk.l0 k q (q.length:Int) ((i+1:Nat):Int) p q e q) (fun k=> ?_) e2,e3⟩
   ·rw [spec_SyncDisk.l0,if_pos zq5,if_pos zq5,rd135 _ _ hlt,w1,w2]
    unfold spec_l01In.f
    by_cases h0:q[i].f0≥0
    ·rw [if_pos h0,Option.bind_some,if_neg zq48]
    ·rw [if_neg h0,Option.bind_some,if_neg zq14]
   ·rw [impl_SyncDisk.l0,if_pos zq5,if_pos zq5,if_pos zq5,rd135 _ _ hlt,w2]
    unfold impl_isPage.f impl_in.f
    rw [w1]
    by_cases h0:q[i].f0≥0
    ·rw [if_pos h0,Option.bind_some,Option.bind_some,if_neg zq48]
    ·rw [if_neg h0,Option.bind_some,Option.bind_some,if_neg zq14]
theorem cloneD_id (p:List ByteArray) (q:List S110) (hp:p.length≤2000000) (hq:q.length≤2000000):impl_cloneDisk.f p q=some (p,q):=by
 unfold impl_cloneDisk.f slices_Clone_string_string.f impl_Put.f
 rw [if_pos zq5,if_pos zq5]
 rfl
theorem sync_both (p:List ByteArray) (q:List S110) (hp:p.length≤2000000) (hq:q.length≤2000000):∃e,Ev (fun k=>spec_SyncDisk.f k p q) (e,[])∧Ev (fun k=>impl_SyncDisk.f k p q) (e,[])∧e.length=p.length:=by
 obtain ⟨e,e1,e2,e3⟩:=sync_go p q hp hq q.length 0 p zq5 rfl
 refine ⟨e,Ev.congr (fun k=> ?_) e1,Ev.congr (fun k=> ?_) e2,e3⟩
 ·unfold spec_SyncDisk.f
  simp only [Option.bind_some,List.nil_append,List.length_nil]
  rw [if_pos zq5]
  rfl
 ·unfold impl_SyncDisk.f
  rw [cloneD_id p q hp hq]
  rfl
end Go.Proofs.YtonhdiemjgdcnaaGreat.PFnExactGivePage
namespace Go.Proofs.YtonhdiemjgdcnaaGreat.PFnExactGivePage
open Go.RowKit Go.Proofs.YtonhdiemjgdcnaaGreatW.PrintWords Go.Proofs.YtonhdiemjgdcnaaGreatW.PrintLast Go.Proofs.YtonhdiemjgdcnaaGreatW.PrintMore
attribute [local go_sem] zka zma zta zsa zaa zba zja zla
theorem diskOkI_d (k:Nat) (z:(List ByteArray×List S110)) (b:Bool) {cs:List Value} (w:World) (h:kDisk.K w z cs) (hf:impl_DiskOk.f z.1 z.2=some b):Calls Tryz.prog 103 #[.agg cs.toArray] w fun e w'=>e= .returned (.bool b)∧Below w.heap.size w w':=by
 obtain ⟨l0,l1⟩:=z
 obtain ⟨A0,c0,A1,c1,rfl,m0,r0,m1,r1⟩:=zCa h
 exact impl_DiskOk.calls A0 c0 l0 A1 c1 l1 b w r0 m0 r1 m1 hf
theorem writeI_no (k:Nat) (l0:List ByteArray) (l1:List S110) (a:Int) (t:ByteArray) {cs:List Value} (w:World) (h:kDisk.K w (l0,l1) cs) (fl:l0.length≤2000000∧l1.length≤2000000) (fd:impl_DiskOk.f l0 l1=some false):
  Calls Tryz.prog 95 #[.agg cs.toArray,.int .i64 a,.string t] w fun e w'=>∃ds:List Value,e= .returned (.tuple #[.agg ds.toArray,.bool false])∧kDisk.M w' w.heap.size (Fr w w') (l0,l1) ds∧Below w.heap.size w w':=by
 have KS0:=h
 obtain ⟨u0,u1,rfl,hU0,hU1⟩:=h
 have hV0:=hU0
 have hV1:=hU1
 obtain ⟨B0,d0,rfl,-,-⟩:=hU0
 obtain ⟨B1,d1,rfl,-,-⟩:=hU1
 obtain ⟨cs,hcs⟩:∃cs:List Value,cs=[.slice B0 l0.length d0]++[.slice B1 l1.length d1]:=⟨_,rfl⟩
 rw [←hcs] at KS0 ⊢
 have Ecs:=zz hcs
 have KS:=zz KS0
 have KW0:=zz (show (Own.srow 9 Kd.string).K w l0 [.slice B0 l0.length d0] from hV0);have KW1:=zz (show (Own.srow 110 k110).K w l1 [.slice B1 l1.length d1] from hV1)
 have Lcs:=zz (show cs.length=2 from Kd.K_len _ KS0)
 have FL:=zz fl;have FD:=zz fd;clear KS0 hV0 hV1 hcs fl fd
 have O:=zz (Nat.le_refl w.heap.size)
 have E:=zz (Env.start w)
 go_enter Tryz.func95,Tryz.ntmps95
 go_wp2_with (first|((with_reducible refine zn (N:=9) rfl ?_);replace O:=zz (And.intro E.out.le O.out);replace E:=zz (E.out.alloc cs 37 (g:=w.heap.size) rfl);replace E:=zz (E.out.alloc [.slice none 0 0,.slice none 0 0] 37 (g:=(w.heap.size+1)) zq16);refine zA rfl 37 _ rfl w.heap.size 0 [] cs [] _ rfl (E.out.box 1 rfl) zq6 (rfl) Tryz.underlying37 rfl zq32 ?_))
 ((with_reducible refine (cloneDisk_c (l0,l1) _ (E.out.K KS.out) FL.out).mono ?_);rintro e w1_ ⟨d2_,rfl,Md2_,hb⟩)
 have q:=E.out.made4 O.out 2 rfl Md2_ hb;clear O E Md2_ hb;obtain ⟨n3_,m4_,Ld2_,Od2_,O,E⟩:=q
 go_wp2_with (first|((with_reducible refine zE (t:=37) (p:=8) rfl ?_);replace O:=zz (And.intro E.out.le O.out);replace E:=zz (E.out.alloc [.slice none 0 0,.slice none 0 0] 37 (g:=w1_.heap.size) rfl);refine zK rfl 37 _ _ rfl rfl w1_.heap.size 0 d2_ [] [.slice none 0 0,.slice none 0 0] [] rfl rfl (E.out.box 0 rfl) zq6 (rfl) (by rw [Ld2_.out];rfl) zq45 Od2_.out ?_;intro W5_ hp hn;replace E:=E.out.put2 0 hp hn zq8;clear hp hn)|((with_reducible refine zn (N:=11) rfl ?_);refine zA rfl 37 _ rfl w.heap.size 0 [] cs [] _ rfl (E.out.box 3 rfl) zq6 (rfl) Tryz.underlying37 rfl zq32 ?_))
 ((with_reducible refine (diskOkI_d k (l0,l1) false _ (E.out.K KS.out) FD.out).mono ?_);rintro e w6_ ⟨rfl,hb⟩)
 replace E:=zz (E.out.call hb);clear hb
 go_wp2_with (first|((with_reducible refine zn (N:=31) rfl ?_);refine zA rfl 37 _ rfl w1_.heap.size 0 [] d2_ [] _ rfl (E.out.box 0 rfl) zq6 (rfl) Tryz.underlying37 rfl zq45 ?_)|((with_reducible refine zE (t:=37) (p:=6) rfl ?_);refine zK rfl 37 _ _ rfl rfl (w.heap.size+1) 0 d2_ [] [.slice none 0 0,.slice none 0 0] [] rfl rfl (E.out.box 2 rfl) zq6 (rfl) (by rw [Ld2_.out];rfl) zq45 Od2_.out ?_;intro W7_ hp hn;replace E:=E.out.put2 2 hp hn zq8;clear hp hn))
 have BX:=zz (show _=some (Obj.cells (d2_:List Value).toArray 37 (0,0)) from by first|exact (E.out.box 2 rfl)|simpa only [aA,aN,aL] using (E.out.box 2 rfl))
 refine bodyPost_ret (zM (rs:=[.cell 6 37,.tmp 7]) rfl zq16 (.cell (w.heap.size+1) 37 _ _ _ rfl BX.out Tryz.underlying37 rfl (by rw [List.size_toArray,show (d2_:List Value).length=2 from Ld2_.out];kernel_rfl) (.tmp .nil))) rfl ?_
 exact ⟨_,rfl,(fresh (d:=kDisk) (E.out.made 1 rfl) (Nat.le_refl _)),E.out.below⟩
theorem diskOkS_d (k:Nat) (z:(List ByteArray×List S110)) (b:Bool) {cs:List Value} (w:World) (h:kDisk.K w z cs) (hf:spec_DiskOk.f k z.1 z.2=some b):Calls Tryz.prog 83 #[.agg cs.toArray] w fun e w'=>e= .returned (.bool b)∧Below w.heap.size w w':=by
 obtain ⟨l0,l1⟩:=z
 obtain ⟨A0,c0,A1,c1,rfl,m0,r0,m1,r1⟩:=zCa h
 exact spec_DiskOk.calls k A0 c0 l0 A1 c1 l1 b w r0 m0 r1 m1 hf
theorem writeS_no (k:Nat) (l0:List ByteArray) (l1:List S110) (a:Int) (t:ByteArray) {cs:List Value} (w:World) (h:kDisk.K w (l0,l1) cs) (fl:l0.length≤2000000∧l1.length≤2000000) (fd:spec_DiskOk.f k l0 l1=some false):
  Calls Tryz.prog 38 #[.agg cs.toArray,.int .i64 a,.string t] w fun e w'=>∃ds:List Value,e= .returned (.tuple #[.agg ds.toArray,.bool false])∧kDisk.M w' w.heap.size (Fr w w') (l0,l1) ds∧Below w.heap.size w w':=by
 have KS0:=h
 obtain ⟨u0,u1,rfl,hU0,hU1⟩:=h
 have hV0:=hU0
 have hV1:=hU1
 obtain ⟨B0,d0,rfl,-,-⟩:=hU0
 obtain ⟨B1,d1,rfl,-,-⟩:=hU1
 obtain ⟨cs,hcs⟩:∃cs:List Value,cs=[.slice B0 l0.length d0]++[.slice B1 l1.length d1]:=⟨_,rfl⟩
 rw [←hcs] at KS0 ⊢
 have Ecs:=zz hcs
 have KS:=zz KS0
 have KW0:=zz (show (Own.srow 9 Kd.string).K w l0 [.slice B0 l0.length d0] from hV0);have KW1:=zz (show (Own.srow 110 k110).K w l1 [.slice B1 l1.length d1] from hV1)
 have Lcs:=zz (show cs.length=2 from Kd.K_len _ KS0)
 have FL:=zz fl;have FD:=zz fd;clear KS0 hV0 hV1 hcs fl fd
 have O:=zz (Nat.le_refl w.heap.size)
 have E:=zz (Env.start w)
 go_enter Tryz.func38,Tryz.ntmps38
 go_wp2_with (first|((with_reducible refine zn (N:=9) rfl ?_);replace O:=zz (And.intro E.out.le O.out);replace E:=zz (E.out.alloc cs 37 (g:=w.heap.size) rfl);replace E:=zz (E.out.alloc [.slice none 0 0,.slice none 0 0] 37 (g:=(w.heap.size+1)) zq16);refine zA rfl 37 _ rfl w.heap.size 0 [] cs [] _ rfl (E.out.box 1 rfl) zq6 (rfl) Tryz.underlying37 rfl zq32 ?_))
 ((with_reducible refine (zEb l0 l1 _ (E.out.K KS.out) FL.out).mono ?_);rintro e w1_ ⟨d2_,rfl,Md2_,hb⟩)
 have q:=E.out.made4 O.out 2 rfl Md2_ hb;clear O E Md2_ hb;obtain ⟨n3_,m4_,Ld2_,Od2_,O,E⟩:=q
 go_wp2_with (first|((with_reducible refine zE (t:=37) (p:=8) rfl ?_);replace O:=zz (And.intro E.out.le O.out);replace E:=zz (E.out.alloc [.slice none 0 0,.slice none 0 0] 37 (g:=w1_.heap.size) rfl);refine zK rfl 37 _ _ rfl rfl w1_.heap.size 0 d2_ [] [.slice none 0 0,.slice none 0 0] [] rfl rfl (E.out.box 0 rfl) zq6 (rfl) (by rw [Ld2_.out];rfl) zq45 Od2_.out ?_;intro W5_ hp hn;replace E:=E.out.put2 0 hp hn zq8;clear hp hn)|((with_reducible refine zn (N:=11) rfl ?_);refine zA rfl 37 _ rfl w.heap.size 0 [] cs [] _ rfl (E.out.box 3 rfl) zq6 (rfl) Tryz.underlying37 rfl zq32 ?_))
 ((with_reducible refine (diskOkS_d k (l0,l1) false _ (E.out.K KS.out) FD.out).mono ?_);rintro e w6_ ⟨rfl,hb⟩)
 replace E:=zz (E.out.call hb);clear hb
 go_wp2_with (first|((with_reducible refine zn (N:=34) rfl ?_);refine zA rfl 37 _ rfl w1_.heap.size 0 [] d2_ [] _ rfl (E.out.box 0 rfl) zq6 (rfl) Tryz.underlying37 rfl zq45 ?_)|((with_reducible refine zE (t:=37) (p:=6) rfl ?_);refine zK rfl 37 _ _ rfl rfl (w.heap.size+1) 0 d2_ [] [.slice none 0 0,.slice none 0 0] [] rfl rfl (E.out.box 2 rfl) zq6 (rfl) (by rw [Ld2_.out];rfl) zq45 Od2_.out ?_;intro W7_ hp hn;replace E:=E.out.put2 2 hp hn zq8;clear hp hn))
 have BX:=zz (show _=some (Obj.cells (d2_:List Value).toArray 37 (0,0)) from by first|exact (E.out.box 2 rfl)|simpa only [aA,aN,aL] using (E.out.box 2 rfl))
 refine bodyPost_ret (zM (rs:=[.cell 6 37,.tmp 7]) rfl zq16 (.cell (w.heap.size+1) 37 _ _ _ rfl BX.out Tryz.underlying37 rfl (by rw [List.size_toArray,show (d2_:List Value).length=2 from Ld2_.out];kernel_rfl) (.tmp .nil))) rfl ?_
 exact ⟨_,rfl,(fresh (d:=kDisk) (E.out.made 1 rfl) (Nat.le_refl _)),E.out.below⟩
theorem impl_WritePage.callsT (A0_0:Option Addr) (c0_0:Nat) (l0_0:List ByteArray) (A0_1:Option Addr) (c0_1:Nat) (l0_1:List (S110)) (a1:Int) (a2:ByteArray) (r1:List ByteArray) (r2:List (S110)) (w:World) (hr0_0:Kd.C Kd.string w A0_0 l0_0.length l0_0) (hc0_0:l0_0.length≤c0_0) (hr0_1:Kd.C k110 w A0_1 l0_1.length l0_1) (hc0_1:l0_1.length≤c0_1) (h:impl_WritePage.f l0_0 l0_1 a1 a2=some (r1,r2,true)):
  Calls Tryz.prog 95 #[.agg #[.slice A0_0 l0_0.length c0_0,.slice A0_1 l0_1.length c0_1],.int .i64 a1,.string a2] w fun e w'=>∃v0_ v1_:Value,e= .returned (.tuple #[.agg #[v0_,v1_],.bool true])∧Kd.R Kd.string 9 w' w.heap.size (fun _=>True) v0_ r1∧Kd.R k110 110 w' w.heap.size (fun _=>True) v1_ r2∧Below w.heap.size w w':=by
 have hu32:=Tryz.underlying37
 have hu135:=Tryz.underlying110
 have HR0_0:=zz hr0_0
 have HC0_0:=zz hc0_0
 clear hr0_0 hc0_0
 have HR0_1:=zz hr0_1
 have HC0_1:=zz hc0_1
 clear hr0_1 hc0_1
 have HB:=zz (Below.refl w.heap.size w)
 have H:((impl_cloneDisk.f l0_0 l0_1).bind fun bt447=>((impl_DiskOk.f l0_0 l0_1).bind fun t454=>(if t454=true then ((impl_isPage.f l0_0 l0_1 a1).bind fun t455=>(if t455=true then (if (a2.size:Int)>240 then (some (bt447.1,bt447.2,false)) else (if (l0_1.length:Int)≥200 then (some (bt447.1,bt447.2,false)) else (if bt447.2.length<5864062014805 then (some (bt447.1,(bt447.2++[(⟨a1,a2⟩:S110)]),true)) else (none)))) else (some (bt447.1,bt447.2,false)))) else (some (bt447.1,bt447.2,false)))))=some (r1,r2,true):=h
 clear h
 replace H:=Option.bind_eq_some_iff.mp H
 obtain ⟨⟨t447,t450⟩,A40,H⟩:=H
 replace H:((impl_DiskOk.f l0_0 l0_1).bind fun t454=>(if t454=true then ((impl_isPage.f l0_0 l0_1 a1).bind fun t455=>(if t455=true then (if (a2.size:Int)>240 then (some (t447,t450,false)) else (if (l0_1.length:Int)≥200 then (some (t447,t450,false)) else (if t450.length<5864062014805 then (some (t447,(t450++[(⟨a1,a2⟩:S110)]),true)) else (none)))) else (some (t447,t450,false)))) else (some (t447,t450,false))))=some (r1,r2,true):=H
 have A4:=zz A40
 clear A40
 replace H:=Option.bind_eq_some_iff.mp H
 obtain ⟨t454,A50,H⟩:=H
 replace H:(if t454=true then ((impl_isPage.f l0_0 l0_1 a1).bind fun t455=>(if t455=true then (if (a2.size:Int)>240 then (some (t447,t450,false)) else (if (l0_1.length:Int)≥200 then (some (t447,t450,false)) else (if t450.length<5864062014805 then (some (t447,(t450++[(⟨a1,a2⟩:S110)]),true)) else (none)))) else (some (t447,t450,false)))) else (some (t447,t450,false)))=some (r1,r2,true):=H
 have A5:=zz A50
 clear A50
 by_cases c6:t454=true
 ·subst c6
  have H1:((impl_isPage.f l0_0 l0_1 a1).bind fun t455=>(if t455=true then (if (a2.size:Int)>240 then (some (t447,t450,false)) else (if (l0_1.length:Int)≥200 then (some (t447,t450,false)) else (if t450.length<5864062014805 then (some (t447,(t450++[(⟨a1,a2⟩:S110)]),true)) else (none)))) else (some (t447,t450,false))))=some (r1,r2,true):=by rw [if_pos rfl] at H;exact H
  clear H
  have H:=H1
  clear H1
  replace H:=Option.bind_eq_some_iff.mp H
  obtain ⟨t455,A70,H⟩:=H
  replace H:(if t455=true then (if (a2.size:Int)>240 then (some (t447,t450,false)) else (if (l0_1.length:Int)≥200 then (some (t447,t450,false)) else (if t450.length<5864062014805 then (some (t447,(t450++[(⟨a1,a2⟩:S110)]),true)) else (none)))) else (some (t447,t450,false)))=some (r1,r2,true):=H
  have A7:=zz A70
  clear A70
  by_cases c8:t455=true
  ·subst c8
   have H1:(if (a2.size:Int)>240 then (some (t447,t450,false)) else (if (l0_1.length:Int)≥200 then (some (t447,t450,false)) else (if t450.length<5864062014805 then (some (t447,(t450++[(⟨a1,a2⟩:S110)]),true)) else (none))))=some (r1,r2,true):=by rw [if_pos rfl] at H;exact H
   clear H
   have H:=H1
   clear H1
   by_cases c9:(a2.size:Int)>240
   ·rw [if_pos c9] at H
    have c9b0:decide (240<(a2.size:Int))=true:=decide_eq_true c9
    have c9b1:decide (240<a2.size)=true:=decide_eq_true zq5
    clear c9
    simp only [Option.some.injEq,Prod.mk.injEq] at H
    exact absurd H.2.2 zq14
   ·rw [if_neg c9] at H
    have c9b0:decide (240<(a2.size:Int))=false:=decide_eq_false c9
    have c9b1:decide (240<a2.size)=false:=decide_eq_false zq5
    clear c9
    by_cases c27:(l0_1.length:Int)≥200
    ·rw [if_pos c27] at H
     have c27b0:decide (200≤(l0_1.length:Int))=true:=decide_eq_true c27
     have c27b1:decide (200≤l0_1.length)=true:=decide_eq_true zq5
     clear c27
     simp only [Option.some.injEq,Prod.mk.injEq] at H
     exact absurd H.2.2 zq14
    ·rw [if_neg c27] at H
     have c27b0:decide (200≤(l0_1.length:Int))=false:=decide_eq_false c27
     have c27b1:decide (200≤l0_1.length)=false:=decide_eq_false zq5
     clear c27
     by_cases c46:t450.length<5864062014805
     ·rw [if_pos c46] at H
      have LMc46:=zz c46
      clear c46
      obtain ⟨y456,hy456⟩:∃y_:List (S110),y_=(t450++[(⟨a1,a2⟩:S110)]):=⟨_,rfl⟩
      replace H:(some (t447,y456,true))=some (r1,r2,true):=by first|(rw [hy456];with_reducible exact H)|(have H2_:=(Option.bind_some _ _).symm.trans H;rw [hy456];with_reducible exact H2_)|(have H2_:=(Option.bind_some _ _).symm.trans H;with_reducible exact H2_)|with_reducible exact H|(rw [hy456];exact H)|exact H
      have Ny456:=zz hy456
      clear hy456
      simp only [Option.some.injEq,Prod.mk.injEq] at H
      obtain ⟨rfl,rfl,-⟩:=H
      go_enter Tryz.func95,Tryz.ntmps95
      go_wp2_with (first|((with_reducible refine zn (N:=3) rfl ?_);(try (refine zBa zq15 ?_;dsimp only));refine zF ?hg (N:=3) ?hd (cs:= #[.slice A0_0 l0_0.length c0_0,.slice A0_1 l0_1.length c0_1]) (t:=37) ?hr ?_;(case hd=>rfl);(case hg=>rfl);(case hr=>first|(go_simp;done)|(go_simp;rfl));intro gb445 hg w47 hbox hb;have n0_:=zz (zh zq1 hb);have n1_:=zz (hbox);have n2_:=zz ((by rw [hg];exact (zi zq1):w.heap.size≤gb445));have n3_:=zz ((by rw [hg];exact (zi zq1):w.heap.size≤gb445));clear HB;have HB:=n0_;have BK445:=n1_;have GW445:=n2_;have GE445:=n3_;clear n0_ n1_ n2_ n3_;clear hb hbox hg)|((with_reducible refine zn (N:=6) rfl ?_);(try (refine zBa zq15 ?_;dsimp only));refine zF ?hg (N:=6) ?hd (cs:= #[.slice none 0 0,.slice none 0 0]) (t:=37) ?hr ?_;(case hd=>rfl);(case hg=>rfl);(case hr=>first|(go_simp;done)|(go_simp;rfl));intro gb446 hg w48 hbox hb;have n0_:=zz (zo (g:=gb445) (o:= .cells #[.slice A0_0 l0_0.length c0_0,.slice A0_1 l0_1.length c0_1] 37 (0,0)) (zq0 BK445.out) hb);have n1_:=zz (zh (zq3 GE445.out) hb);have n2_:=zz (hbox);have n3_:=zz ((by rw [hg];exact (zi (zq3 GE445.out)):w.heap.size≤gb446));have n4_:=zz ((by rw [hg];exact (zi (zq3 GE445.out)):w.heap.size≤gb446));have n5_:=zz ((by rw [hg];exact Nat.ne_of_lt (zI (g:=gb445) (o:= .cells #[.slice A0_0 l0_0.length c0_0,.slice A0_1 l0_1.length c0_1] 37 (0,0)) (zq0 BK445.out)):gb445≠gb446));have n6_:=zz ((by rw [hg];exact Nat.ne_of_gt (zI (g:=gb445) (o:= .cells #[.slice A0_0 l0_0.length c0_0,.slice A0_1 l0_1.length c0_1] 37 (0,0)) (zq0 BK445.out)):gb446≠gb445));clear BK445;clear HB;have BK445:=n0_;have HB:=n1_;have BK446:=n2_;have GW446:=n3_;have GE446:=n4_;have NB445_446:=n5_;have NB446_445:=n6_;clear n0_ n1_ n2_ n3_ n4_ n5_ n6_;clear hb hbox hg;have hnb49:=NB445_446.out;have hnc49:=NB446_445.out;have hcz50_0:w48.cell? ⟨gb445,0,none⟩=some (.slice A0_0 l0_0.length c0_0):=(zd BK445.out 0).trans rfl;have hcz50_1:w48.cell? ⟨gb445,1,none⟩=some (.slice A0_1 l0_1.length c0_1):=(zd BK445.out 1).trans rfl;have hfz50_0:=ze BK445.out 0;have hfz50_1:=ze BK445.out 1)|((with_reducible refine zB (f:=46) rfl ?_);refine zR (some 10) rfl rfl Tryz.func46 zq7 rfl #[.agg #[.slice A0_0 l0_0.length c0_0,.slice A0_1 l0_1.length c0_1]] rfl zq4 ?_;(with_reducible refine (impl_cloneDisk.calls _ _ l0_0 _ _ l0_1 t447 t450 _ ?side1 ?side2 ?side3 ?side4 A4.out).mono ?_);(case side1=>repeat (first|exact (Kd.C_below HR0_0.out HB.out)|(with_reducible refine Kd.C_alloc ?_ _)|(with_reducible refine Kd.C_drewN ?_ _)|(with_reducible refine Kd.C_drew ?_)));(case side2=>exact HC0_0.out);(case side3=>repeat (first|exact (Kd.C_below HR0_1.out HB.out)|(with_reducible refine Kd.C_alloc ?_ _)|(with_reducible refine Kd.C_drewN ?_ _)|(with_reducible refine Kd.C_drew ?_)));(case side4=>exact HC0_1.out);rintro e w51 ⟨v448,v451,rfl,ho0,ho1,hb⟩;refine ⟨_,rfl,?_⟩;(first|have rs_v448:=zZ (P:=Tryz.prog) ho0|have rs_v448:=zZ (P:=Tryz.prog) (Kd.S_R ho0)|skip);(first|have rs_v451:=zZ (P:=Tryz.prog) ho1|have rs_v451:=zZ (P:=Tryz.prog) (Kd.S_R ho1)|skip);have n0_:=zz (Kd.R_lower ho0 (zi (zq2 GE445.out GE446.out)));have n1_:=zz (Kd.R_lower ho1 (zi (zq2 GE445.out GE446.out)));have n2_:=zz (zo (g:=gb445) (o:= .cells #[.slice A0_0 l0_0.length c0_0,.slice A0_1 l0_1.length c0_1] 37 (0,0)) (zq0 BK445.out) hb);have n3_:=zz (zo (g:=gb446) (o:= .cells #[.slice none 0 0,.slice none 0 0] 37 (0,0)) (zq0 BK446.out) hb);have n4_:=zz (zh (zq2 GE445.out GE446.out) hb);clear BK445;clear BK446;clear HB;have HO449:=n0_;have HO452:=n1_;have BK445:=n2_;have BK446:=n3_;have HB:=n4_;clear n0_ n1_ n2_ n3_ n4_;(try clear hb);(try clear hb2);(try clear hk);(try clear hi);(try clear ho0);(try clear ho1))|((with_reducible refine zn (N:=8) rfl ?_);(try (refine zBa zq15 ?_;dsimp only));refine zF ?hg (N:=8) ?hd (cs:= #[.slice none 0 0,.slice none 0 0]) (t:=37) ?hr ?_;(case hd=>rfl);(case hg=>rfl);(case hr=>first|(go_simp;done)|(go_simp;rfl));intro gb453 hg w52 hbox hb;have n0_:=zz (Kd.R_below (zq11 HO449.out) hb);have n1_:=zz (Kd.R_below (zq11 HO452.out) hb);have n2_:=zz (zo (g:=gb445) (o:= .cells #[.slice A0_0 l0_0.length c0_0,.slice A0_1 l0_1.length c0_1] 37 (0,0)) (zq0 BK445.out) hb);have n3_:=zz (zo (g:=gb446) (o:= .cells #[.slice none 0 0,.slice none 0 0] 37 (0,0)) (zq0 BK446.out) hb);have n4_:=zz (zh (zq2 GE445.out GE446.out) hb);have n5_:=zz (hbox);have n6_:=zz ((by rw [hg];exact (zi (zq2 GE445.out GE446.out)):w.heap.size≤gb453));have n7_:=zz ((by rw [hg];exact (zi (zq2 GE445.out GE446.out)):w.heap.size≤gb453));have n8_:=zz ((by rw [hg];exact Nat.ne_of_lt (zI (g:=gb445) (o:= .cells #[.slice A0_0 l0_0.length c0_0,.slice A0_1 l0_1.length c0_1] 37 (0,0)) (zq0 BK445.out)):gb445≠gb453));have n9_:=zz ((by rw [hg];exact Nat.ne_of_gt (zI (g:=gb445) (o:= .cells #[.slice A0_0 l0_0.length c0_0,.slice A0_1 l0_1.length c0_1] 37 (0,0)) (zq0 BK445.out)):gb453≠gb445));have n10_:=zz ((by rw [hg];exact Nat.ne_of_lt (zI (g:=gb446) (o:= .cells #[.slice none 0 0,.slice none 0 0] 37 (0,0)) (zq0 BK446.out)):gb446≠gb453));have n11_:=zz ((by rw [hg];exact Nat.ne_of_gt (zI (g:=gb446) (o:= .cells #[.slice none 0 0,.slice none 0 0] 37 (0,0)) (zq0 BK446.out)):gb453≠gb446));clear HO449;clear HO452;clear BK445;clear BK446;clear HB;have HO449:=n0_;have HO452:=n1_;have BK445:=n2_;have BK446:=n3_;have HB:=n4_;have BK453:=n5_;have GW453:=n6_;have GE453:=n7_;have NB445_453:=n8_;have NB453_445:=n9_;have NB446_453:=n10_;have NB453_446:=n11_;clear n0_ n1_ n2_ n3_ n4_ n5_ n6_ n7_ n8_ n9_ n10_ n11_;clear hb hbox hg;obtain ⟨Ao53,co53,eo53⟩:=Kd.R_slice HO449.out;subst eo53;have hnb54:=NB453_445.out;have hnc54:=NB445_453.out;have hnb55:=NB453_446.out;have hnc55:=NB446_453.out;have hcz56_0:w52.cell? ⟨gb453,0,none⟩=some (.slice none 0 0):=(zd BK453.out 0).trans rfl;have hcz56_1:w52.cell? ⟨gb453,1,none⟩=some (.slice none 0 0):=(zd BK453.out 1).trans rfl;have hfz56_0:=ze BK453.out 0;have hfz56_1:=ze BK453.out 1;obtain ⟨Ao57,co57,eo57⟩:=Kd.R_slice HO452.out;subst eo57;have hcz58_0:w52.cell? ⟨gb445,0,none⟩=some (.slice A0_0 l0_0.length c0_0):=(zd BK445.out 0).trans rfl;have hcz58_1:w52.cell? ⟨gb445,1,none⟩=some (.slice A0_1 l0_1.length c0_1):=(zd BK445.out 1).trans rfl;have hfz58_0:=ze BK445.out 0;have hfz58_1:=ze BK445.out 1)|((with_reducible refine zB (f:=103) rfl ?_);refine zR (some 12) rfl rfl Tryz.func103 zq7 rfl #[.agg #[.slice A0_0 l0_0.length c0_0,.slice A0_1 l0_1.length c0_1]] rfl zq4 ?_;(with_reducible refine (impl_DiskOk.calls _ _ l0_0 _ _ l0_1 true _ ?side1 ?side2 ?side3 ?side4 A5.out).mono ?_);(case side1=>exact Kd.C_below HR0_0.out (zq9 GE445.out GE446.out GE453.out));(case side2=>exact HC0_0.out);(case side3=>exact Kd.C_below HR0_1.out (zq9 GE445.out GE446.out GE453.out));(case side4=>exact HC0_1.out);rintro e w59 ⟨rfl,hb⟩;refine ⟨_,rfl,?_⟩;have n0_:=zz (Kd.R_below (zq29 HO449.out BK453.out) hb);have n1_:=zz (Kd.R_below (zq29 HO452.out BK453.out) hb);have n2_:=zz (zo (g:=gb445) (o:= .cells #[.slice A0_0 l0_0.length c0_0,.slice A0_1 l0_1.length c0_1] 37 (0,0)) (by (with_reducible repeat (first|refine zm ?_ _|refine zu ?_|refine zl ?_ _));refine zQ ?_ NB445_453.out _;(with_reducible repeat (first|refine zm ?_ _|refine zu ?_|refine zl ?_ _));refine zQ ?_ NB445_453.out _;(with_reducible repeat (first|refine zm ?_ _|refine zu ?_|refine zl ?_ _));exact BK445.out) hb);have n3_:=zz (zo (g:=gb446) (o:= .cells #[.slice none 0 0,.slice none 0 0] 37 (0,0)) (by (with_reducible repeat (first|refine zm ?_ _|refine zu ?_|refine zl ?_ _));refine zQ ?_ NB446_453.out _;(with_reducible repeat (first|refine zm ?_ _|refine zu ?_|refine zl ?_ _));refine zQ ?_ NB446_453.out _;(with_reducible repeat (first|refine zm ?_ _|refine zu ?_|refine zl ?_ _));exact BK446.out) hb);have n4_:=zz (zo (g:=gb453) (o:= .cells #[.slice Ao53 t447.length co53,.slice Ao57 t450.length co57] 37 (0,0)) (by (with_reducible repeat (first|refine zm ?_ _|refine zu ?_|refine zl ?_ _));refine zT (cs:= #[.slice Ao53 t447.length co53,.slice none 0 0]) ?_ 1 _ rfl;(with_reducible repeat (first|refine zm ?_ _|refine zu ?_|refine zl ?_ _));refine zT (cs:= #[.slice none 0 0,.slice none 0 0]) ?_ 0 _ rfl;(with_reducible repeat (first|refine zm ?_ _|refine zu ?_|refine zl ?_ _));exact BK453.out) hb);have n5_:=zz (zh (zq9 GE445.out GE446.out GE453.out) hb);clear HO449;clear HO452;clear BK445;clear BK446;clear BK453;clear HB;have HO449:=n0_;have HO452:=n1_;have BK445:=n2_;have BK446:=n3_;have BK453:=n4_;have HB:=n5_;clear n0_ n1_ n2_ n3_ n4_ n5_;(try clear hb);(try clear hb2);(try clear hk);(try clear hi);have hcz60_0:w59.cell? ⟨gb445,0,none⟩=some (.slice A0_0 l0_0.length c0_0):=(zd BK445.out 0).trans rfl;have hcz60_1:w59.cell? ⟨gb445,1,none⟩=some (.slice A0_1 l0_1.length c0_1):=(zd BK445.out 1).trans rfl;have hfz60_0:=ze BK445.out 0;have hfz60_1:=ze BK445.out 1)|(go_at_call 86;(with_reducible refine (impl_isPage.calls _ _ l0_0 _ _ l0_1 a1 true _ ?side1 ?side2 ?side3 ?side4 A7.out).mono ?_);(case side1=>repeat (first|exact (Kd.C_below HR0_0.out HB.out)|(with_reducible refine Kd.C_alloc ?_ _)|(with_reducible refine Kd.C_drewN ?_ _)|(with_reducible refine Kd.C_drew ?_)));(case side2=>exact HC0_0.out);(case side3=>repeat (first|exact (Kd.C_below HR0_1.out HB.out)|(with_reducible refine Kd.C_alloc ?_ _)|(with_reducible refine Kd.C_drewN ?_ _)|(with_reducible refine Kd.C_drew ?_)));(case side4=>exact HC0_1.out);rintro e w61 ⟨rfl,hb⟩;have n0_:=zz (Kd.R_below (zq11 HO449.out) hb);have n1_:=zz (Kd.R_below (zq11 HO452.out) hb);have n2_:=zz (zo (g:=gb445) (o:= .cells #[.slice A0_0 l0_0.length c0_0,.slice A0_1 l0_1.length c0_1] 37 (0,0)) (zq0 BK445.out) hb);have n3_:=zz (zo (g:=gb446) (o:= .cells #[.slice none 0 0,.slice none 0 0] 37 (0,0)) (zq0 BK446.out) hb);have n4_:=zz (zo (g:=gb453) (o:= .cells #[.slice Ao53 t447.length co53,.slice Ao57 t450.length co57] 37 (0,0)) (zq0 BK453.out) hb);have n5_:=zz (zh (zq9 GE445.out GE446.out GE453.out) hb);clear HO449;clear HO452;clear BK445;clear BK446;clear BK453;clear HB;have HO449:=n0_;have HO452:=n1_;have BK445:=n2_;have BK446:=n3_;have BK453:=n4_;have HB:=n5_;clear n0_ n1_ n2_ n3_ n4_ n5_;(try clear hb);(try clear hb2);(try clear hk);(try clear hi);have hcz62_0:w61.cell? ⟨gb445,0,none⟩=some (.slice A0_0 l0_0.length c0_0):=(zd BK445.out 0).trans rfl;have hcz62_1:w61.cell? ⟨gb445,1,none⟩=some (.slice A0_1 l0_1.length c0_1):=(zd BK445.out 1).trans rfl;have hfz62_0:=ze BK445.out 0;have hfz62_1:=ze BK445.out 1;have hcz63_0:w61.cell? ⟨gb453,0,none⟩=some (.slice Ao53 t447.length co53):=(zd BK453.out 0).trans rfl;have hcz63_1:w61.cell? ⟨gb453,1,none⟩=some (.slice Ao57 t450.length co57):=(zd BK453.out 1).trans rfl;have hfz63_0:=ze BK453.out 0;have hfz63_1:=ze BK453.out 1)|((with_reducible refine zS (b:= .append) (xs:= #[.tmp 33,.tmp 37]) rfl ?_);(try (refine zBa zq15 ?_;dsimp only));at_builtin;refine Kd.R_append k110 (w0:=w) w.heap.size rfl (.tmp 33) (.tmp 37) 35 110 (.agg #[(.int .i64 0),(.string ⟨#[]⟩)]) 24 rfl Tryz.underlying35 info110 rfl zq14 zq5 (.slice Ao57 t450.length co57) t450 (⟨a1,a2⟩:S110) [.int .i64 a1,.string a2] (fun _=>True) (fun _=>False) rfl rfl ?aP (fun _ hk=>hk.elim) ?aF ?aO ?aB ?aS ?aL ?_;(case aP=>exact k110_mkM _ _ _ (⟨a1,a2⟩:S110));(case aB=>exact (zq9 GE445.out GE446.out GE453.out));(case aF=>exact (fun _ _=>trivial));(case aO=>exact (zq11 HO452.out));(case aS=>exact (zi (zq9 GE445.out GE446.out GE453.out)));(case aL=>have:=LMc46.out;omega);intro v457 w64 ho hb hg hat;rw [←Ny456.out] at ho;have n0_:=zz (zO (g:=gb445) (o:= .cells #[.slice A0_0 l0_0.length c0_0,.slice A0_1 l0_1.length c0_1] 37 (0,0)) (zq0 BK445.out) hg (Kd.R_ne HO452.out BK445.out zq14));have n1_:=zz (zO (g:=gb446) (o:= .cells #[.slice none 0 0,.slice none 0 0] 37 (0,0)) (zq0 BK446.out) hg (Kd.R_ne HO452.out BK446.out zq14));have n2_:=zz (Kd.R_over' (zq11 HO449.out) (Kd.R_typed (zq11 HO452.out)) zq14 hg);have n3_:=zz (zO (g:=gb453) (o:= .cells #[.slice Ao53 t447.length co53,.slice Ao57 t450.length co57] 37 (0,0)) (zq0 BK453.out) hg (Kd.R_ne HO452.out BK453.out zq14));have n4_:=zz (hb);have n5_:=zz (ho);clear BK445;clear BK446;clear HO449;clear BK453;clear HB;clear HO452;have BK445:=n0_;have BK446:=n1_;have HO449:=n2_;have BK453:=n3_;have HB:=n4_;have HO458:=n5_;clear n0_ n1_ n2_ n3_ n4_ n5_;clear ho hb hg hat;obtain ⟨Ao65,co65,eo65⟩:=Kd.R_slice HO458.out;subst eo65;have hcz66_0:w64.cell? ⟨gb453,0,none⟩=some (.slice Ao53 t447.length co53):=(zd BK453.out 0).trans rfl;have hcz66_1:w64.cell? ⟨gb453,1,none⟩=some (.slice Ao57 t450.length co57):=(zd BK453.out 1).trans rfl;have hfz66_0:=ze BK453.out 0;have hfz66_1:=ze BK453.out 1;have hcz67_0:w64.cell? ⟨gb446,0,none⟩=some (.slice none 0 0):=(zd BK446.out 0).trans rfl;have hcz67_1:w64.cell? ⟨gb446,1,none⟩=some (.slice none 0 0):=(zd BK446.out 1).trans rfl;have hfz67_0:=ze BK446.out 0;have hfz67_1:=ze BK446.out 1))
      refine bodyPost_ret (results_ct rfl _ _ gb446 37 #[.slice Ao53 t447.length co53,.slice Ao65 y456.length co65] (0,0) _ rfl (by (with_reducible repeat (first|refine zm ?_ _|refine zu ?_|refine zl ?_ _));refine zT (cs:= #[.slice Ao53 t447.length co53,.slice none 0 0]) ?_ 1 _ rfl;(with_reducible repeat (first|refine zm ?_ _|refine zu ?_|refine zl ?_ _));refine zT (cs:= #[.slice none 0 0,.slice none 0 0]) ?_ 0 _ rfl;(with_reducible repeat (first|refine zm ?_ _|refine zu ?_|refine zl ?_ _));refine zQ ?_ NB446_453.out _;(with_reducible repeat (first|refine zm ?_ _|refine zu ?_|refine zl ?_ _));exact BK446.out) Tryz.underlying37 rfl zq7) rfl ?_
      exact ⟨_,_,by first|rfl|(simp [zw,zv]<;>rfl)|(simp [*,zw,zv]<;>rfl),by (with_reducible repeat (first|apply Kd.R_alloc|apply Kd.R_drewN|apply Kd.R_drew));exact Kd.R_mono (Kd.R_far (p:=⟨gb446,1,none⟩) (Kd.R_far (p:=⟨gb446,0,none⟩) (Kd.R_far (p:=⟨gb453,1,none⟩) (Kd.R_types (Kd.R_types HO449.out BK453.out zq14) BK446.out zq14) (fun _ hk=>hk.1.2) (.slice Ao65 y456.length co65)) (fun _ hk=>hk.2) (.slice Ao53 t447.length co53)) (fun _ hk=>hk.2) (.slice Ao65 y456.length co65)) (fun _ hk=>trivial),by (with_reducible repeat (first|apply Kd.R_alloc|apply Kd.R_drewN|apply Kd.R_drew));exact Kd.R_mono (Kd.R_far (p:=⟨gb446,1,none⟩) (Kd.R_far (p:=⟨gb446,0,none⟩) (Kd.R_far (p:=⟨gb453,1,none⟩) (Kd.R_types (Kd.R_types HO458.out BK453.out zq14) BK446.out zq14) (fun _ hk=>hk.1.2) (.slice Ao65 y456.length co65)) (fun _ hk=>hk.2) (.slice Ao53 t447.length co53)) (fun _ hk=>hk.2) (.slice Ao65 y456.length co65)) (fun _ hk=>trivial),by repeat (first|(with_reducible first|exact HB.out|apply zf|apply zg|apply zj|refine zx ?_ GE445.out|refine zx ?_ GE446.out|refine zx ?_ GE453.out)|exact HB.out)⟩
     ·rw [if_neg c46] at H
      exact absurd H zq16
  ·replace c8:=Bool.eq_false_iff.mpr c8
   subst c8
   have H1:(some (t447,t450,false))=some (r1,r2,true):=by rw [if_neg (show ¬(false=true) by decide)] at H;exact H
   clear H
   have H:=H1
   clear H1
   simp only [Option.some.injEq,Prod.mk.injEq] at H
   exact absurd H.2.2 zq14
 ·replace c6:=Bool.eq_false_iff.mpr c6
  subst c6
  have H1:(some (t447,t450,false))=some (r1,r2,true):=by rw [if_neg (show ¬(false=true) by decide)] at H;exact H
  clear H
  have H:=H1
  clear H1
  simp only [Option.some.injEq,Prod.mk.injEq] at H
  exact absurd H.2.2 zq14
theorem writeI_t (k:Nat) (z z':(List ByteArray×List S110)) (a:Int) (t:ByteArray) {cs:List Value} (w:World) (h:kDisk.K w z cs) (hf:impl_WritePage.f z.1 z.2 a t=some (z'.1,z'.2,true)):
  Calls Tryz.prog 95 #[.agg cs.toArray,.int .i64 a,.string t] w fun e w'=>∃ds:List Value,e= .returned (.tuple #[.agg ds.toArray,.bool true])∧kDisk.M w' w.heap.size (Fr w w') z' ds∧Below w.heap.size w w':=by
 obtain ⟨l0,l1⟩:=z
 obtain ⟨q0,q1⟩:=z'
 obtain ⟨A0,c0,A1,c1,rfl,m0,r0,m1,r1⟩:=zCa h
 refine (impl_WritePage.callsT A0 c0 l0 A1 c1 l1 a t q0 q1 w r0 m0 r1 m1 hf).mono ?_
 rintro e w' ⟨v0,v1,rfl,R0,R1,hb⟩
 have T0:=Own.R_tightB rfl R0
 have T1:=Own.R_tightB rfl R1
 exact ⟨[v0,v1],rfl,znb T0.1 T1.1 T0.2.1 T1.2.1 (Own.types_ne T0.2.2 T1.2.2 zq14),hb⟩
theorem spec_WritePage.callsT (k:Nat) (A0_0:Option Addr) (c0_0:Nat) (l0_0:List ByteArray) (A0_1:Option Addr) (c0_1:Nat) (l0_1:List (S110)) (a1:Int) (a2:ByteArray) (r1:List ByteArray) (r2:List (S110)) (w:World) (hr0_0:Kd.C Kd.string w A0_0 l0_0.length l0_0) (hc0_0:l0_0.length≤c0_0) (hr0_1:Kd.C k110 w A0_1 l0_1.length l0_1) (hc0_1:l0_1.length≤c0_1) (h:spec_WritePage.f k l0_0 l0_1 a1 a2=some (r1,r2,true)):
  Calls Tryz.prog 38 #[.agg #[.slice A0_0 l0_0.length c0_0,.slice A0_1 l0_1.length c0_1],.int .i64 a1,.string a2] w fun e w'=>∃v0_ v1_:Value,e= .returned (.tuple #[.agg #[v0_,v1_],.bool true])∧Kd.R Kd.string 9 w' w.heap.size (fun _=>True) v0_ r1∧Kd.R k110 110 w' w.heap.size (fun _=>True) v1_ r2∧Below w.heap.size w w':=by
 have hu32:=Tryz.underlying37
 have hu135:=Tryz.underlying110
 have HR0_0:=zz hr0_0
 have HC0_0:=zz hc0_0
 clear hr0_0 hc0_0
 have HR0_1:=zz hr0_1
 have HC0_1:=zz hc0_1
 clear hr0_1 hc0_1
 have HB:=zz (Below.refl w.heap.size w)
 have H:((spec_l03Copy.f l0_0 l0_1).bind fun bt316=>((spec_DiskOk.f k l0_0 l0_1).bind fun t323=>(if t323=true then ((spec_l01In.f a1 0 (wrap64 ((l0_0.length:Int)-1))).bind fun t324=>(if t324=true then (if (a2.size:Int)>240 then (some (bt316.1,bt316.2,false)) else (if (l0_1.length:Int)=200 then (some (bt316.1,bt316.2,false)) else (if bt316.2.length<5864062014805 then (some (bt316.1,(bt316.2++[(⟨a1,a2⟩:S110)]),true)) else (none)))) else (some (bt316.1,bt316.2,false)))) else (some (bt316.1,bt316.2,false)))))=some (r1,r2,true):=h
 clear h
 replace H:=Option.bind_eq_some_iff.mp H
 obtain ⟨⟨t316,t319⟩,A40,H⟩:=H
 replace H:((spec_DiskOk.f k l0_0 l0_1).bind fun t323=>(if t323=true then ((spec_l01In.f a1 0 (wrap64 ((l0_0.length:Int)-1))).bind fun t324=>(if t324=true then (if (a2.size:Int)>240 then (some (t316,t319,false)) else (if (l0_1.length:Int)=200 then (some (t316,t319,false)) else (if t319.length<5864062014805 then (some (t316,(t319++[(⟨a1,a2⟩:S110)]),true)) else (none)))) else (some (t316,t319,false)))) else (some (t316,t319,false))))=some (r1,r2,true):=H
 have A4:=zz A40
 clear A40
 replace H:=Option.bind_eq_some_iff.mp H
 obtain ⟨t323,A50,H⟩:=H
 replace H:(if t323=true then ((spec_l01In.f a1 0 (wrap64 ((l0_0.length:Int)-1))).bind fun t324=>(if t324=true then (if (a2.size:Int)>240 then (some (t316,t319,false)) else (if (l0_1.length:Int)=200 then (some (t316,t319,false)) else (if t319.length<5864062014805 then (some (t316,(t319++[(⟨a1,a2⟩:S110)]),true)) else (none)))) else (some (t316,t319,false)))) else (some (t316,t319,false)))=some (r1,r2,true):=H
 have A5:=zz A50
 clear A50
 by_cases c6:t323=true
 ·subst c6
  have H1:((spec_l01In.f a1 0 (wrap64 ((l0_0.length:Int)-1))).bind fun t324=>(if t324=true then (if (a2.size:Int)>240 then (some (t316,t319,false)) else (if (l0_1.length:Int)=200 then (some (t316,t319,false)) else (if t319.length<5864062014805 then (some (t316,(t319++[(⟨a1,a2⟩:S110)]),true)) else (none)))) else (some (t316,t319,false))))=some (r1,r2,true):=by rw [if_pos rfl] at H;exact H
  clear H
  have H:=H1
  clear H1
  replace H:=Option.bind_eq_some_iff.mp H
  obtain ⟨t324,A70,H⟩:=H
  replace H:(if t324=true then (if (a2.size:Int)>240 then (some (t316,t319,false)) else (if (l0_1.length:Int)=200 then (some (t316,t319,false)) else (if t319.length<5864062014805 then (some (t316,(t319++[(⟨a1,a2⟩:S110)]),true)) else (none)))) else (some (t316,t319,false)))=some (r1,r2,true):=H
  have A7:=zz A70
  clear A70
  by_cases c8:t324=true
  ·subst c8
   have H1:(if (a2.size:Int)>240 then (some (t316,t319,false)) else (if (l0_1.length:Int)=200 then (some (t316,t319,false)) else (if t319.length<5864062014805 then (some (t316,(t319++[(⟨a1,a2⟩:S110)]),true)) else (none))))=some (r1,r2,true):=by rw [if_pos rfl] at H;exact H
   clear H
   have H:=H1
   clear H1
   by_cases c9:(a2.size:Int)>240
   ·rw [if_pos c9] at H
    have c9b0:decide (240<(a2.size:Int))=true:=decide_eq_true c9
    have c9b1:decide (240<a2.size)=true:=decide_eq_true zq5
    clear c9
    simp only [Option.some.injEq,Prod.mk.injEq] at H
    exact absurd H.2.2 zq14
   ·rw [if_neg c9] at H
    have c9b0:decide (240<(a2.size:Int))=false:=decide_eq_false c9
    have c9b1:decide (240<a2.size)=false:=decide_eq_false zq5
    clear c9
    by_cases c26:(l0_1.length:Int)=200
    ·rw [if_pos c26] at H
     have c26b0:((l0_1.length:Int)==200)=true:=beq_iff_eq.mpr c26
     have c26b1:((l0_1.length:Int) !=200)=false:=bne_eq_false_iff_eq.mpr c26
     clear c26
     simp only [Option.some.injEq,Prod.mk.injEq] at H
     exact absurd H.2.2 zq14
    ·rw [if_neg c26] at H
     have c26b0:((l0_1.length:Int)==200)=false:=beq_eq_false_iff_ne.mpr c26
     have c26b1:((l0_1.length:Int) !=200)=true:=bne_iff_ne.mpr c26
     by_cases c43:t319.length<5864062014805
     ·rw [if_pos c43] at H
      have LMc43:=zz c43
      clear c43
      obtain ⟨y325,hy325⟩:∃y_:List (S110),y_=(t319++[(⟨a1,a2⟩:S110)]):=⟨_,rfl⟩
      replace H:(some (t316,y325,true))=some (r1,r2,true):=by first|(rw [hy325];with_reducible exact H)|(have H2_:=(Option.bind_some _ _).symm.trans H;rw [hy325];with_reducible exact H2_)|(have H2_:=(Option.bind_some _ _).symm.trans H;with_reducible exact H2_)|with_reducible exact H|(rw [hy325];exact H)|exact H
      have Ny325:=zz hy325
      clear hy325
      simp only [Option.some.injEq,Prod.mk.injEq] at H
      obtain ⟨rfl,rfl,-⟩:=H
      go_enter Tryz.func38,Tryz.ntmps38
      go_wp2_with (first|((with_reducible refine zn (N:=3) rfl ?_);(try (refine zBa zq15 ?_;dsimp only));refine zF ?hg (N:=3) ?hd (cs:= #[.slice A0_0 l0_0.length c0_0,.slice A0_1 l0_1.length c0_1]) (t:=37) ?hr ?_;(case hd=>rfl);(case hg=>rfl);(case hr=>first|(go_simp;done)|(go_simp;rfl));intro gb314 hg w44 hbox hb;have n0_:=zz (zh zq1 hb);have n1_:=zz (hbox);have n2_:=zz ((by rw [hg];exact (zi zq1):w.heap.size≤gb314));have n3_:=zz ((by rw [hg];exact (zi zq1):w.heap.size≤gb314));clear HB;have HB:=n0_;have BK314:=n1_;have GW314:=n2_;have GE314:=n3_;clear n0_ n1_ n2_ n3_;clear hb hbox hg)|((with_reducible refine zn (N:=6) rfl ?_);(try (refine zBa zq15 ?_;dsimp only));refine zF ?hg (N:=6) ?hd (cs:= #[.slice none 0 0,.slice none 0 0]) (t:=37) ?hr ?_;(case hd=>rfl);(case hg=>rfl);(case hr=>first|(go_simp;done)|(go_simp;rfl));intro gb315 hg w45 hbox hb;have n0_:=zz (zo (g:=gb314) (o:= .cells #[.slice A0_0 l0_0.length c0_0,.slice A0_1 l0_1.length c0_1] 37 (0,0)) (zq0 BK314.out) hb);have n1_:=zz (zh (zq3 GE314.out) hb);have n2_:=zz (hbox);have n3_:=zz ((by rw [hg];exact (zi (zq3 GE314.out)):w.heap.size≤gb315));have n4_:=zz ((by rw [hg];exact (zi (zq3 GE314.out)):w.heap.size≤gb315));have n5_:=zz ((by rw [hg];exact Nat.ne_of_lt (zI (g:=gb314) (o:= .cells #[.slice A0_0 l0_0.length c0_0,.slice A0_1 l0_1.length c0_1] 37 (0,0)) (zq0 BK314.out)):gb314≠gb315));have n6_:=zz ((by rw [hg];exact Nat.ne_of_gt (zI (g:=gb314) (o:= .cells #[.slice A0_0 l0_0.length c0_0,.slice A0_1 l0_1.length c0_1] 37 (0,0)) (zq0 BK314.out)):gb315≠gb314));clear BK314;clear HB;have BK314:=n0_;have HB:=n1_;have BK315:=n2_;have GW315:=n3_;have GE315:=n4_;have NB314_315:=n5_;have NB315_314:=n6_;clear n0_ n1_ n2_ n3_ n4_ n5_ n6_;clear hb hbox hg;have hnb46:=NB314_315.out;have hnc46:=NB315_314.out;have hcz47_0:w45.cell? ⟨gb314,0,none⟩=some (.slice A0_0 l0_0.length c0_0):=(zd BK314.out 0).trans rfl;have hcz47_1:w45.cell? ⟨gb314,1,none⟩=some (.slice A0_1 l0_1.length c0_1):=(zd BK314.out 1).trans rfl;have hfz47_0:=ze BK314.out 0;have hfz47_1:=ze BK314.out 1)|((with_reducible refine zB (f:=36) rfl ?_);refine zR (some 10) rfl rfl Tryz.func36 zq7 rfl #[.agg #[.slice A0_0 l0_0.length c0_0,.slice A0_1 l0_1.length c0_1]] rfl zq4 ?_;(with_reducible refine (spec_l03Copy.calls _ _ l0_0 _ _ l0_1 t316 t319 _ ?side1 ?side2 ?side3 ?side4 A4.out).mono ?_);(case side1=>repeat (first|exact (Kd.C_below HR0_0.out HB.out)|(with_reducible refine Kd.C_alloc ?_ _)|(with_reducible refine Kd.C_drewN ?_ _)|(with_reducible refine Kd.C_drew ?_)));(case side2=>exact HC0_0.out);(case side3=>repeat (first|exact (Kd.C_below HR0_1.out HB.out)|(with_reducible refine Kd.C_alloc ?_ _)|(with_reducible refine Kd.C_drewN ?_ _)|(with_reducible refine Kd.C_drew ?_)));(case side4=>exact HC0_1.out);rintro e w48 ⟨v317,v320,rfl,ho0,ho1,hb⟩;refine ⟨_,rfl,?_⟩;(first|have rs_v317:=zZ (P:=Tryz.prog) ho0|have rs_v317:=zZ (P:=Tryz.prog) (Kd.S_R ho0)|skip);(first|have rs_v320:=zZ (P:=Tryz.prog) ho1|have rs_v320:=zZ (P:=Tryz.prog) (Kd.S_R ho1)|skip);have n0_:=zz (Kd.R_lower ho0 (zi (zq2 GE314.out GE315.out)));have n1_:=zz (Kd.R_lower ho1 (zi (zq2 GE314.out GE315.out)));have n2_:=zz (zo (g:=gb314) (o:= .cells #[.slice A0_0 l0_0.length c0_0,.slice A0_1 l0_1.length c0_1] 37 (0,0)) (zq0 BK314.out) hb);have n3_:=zz (zo (g:=gb315) (o:= .cells #[.slice none 0 0,.slice none 0 0] 37 (0,0)) (zq0 BK315.out) hb);have n4_:=zz (zh (zq2 GE314.out GE315.out) hb);clear BK314;clear BK315;clear HB;have HO318:=n0_;have HO321:=n1_;have BK314:=n2_;have BK315:=n3_;have HB:=n4_;clear n0_ n1_ n2_ n3_ n4_;(try clear hb);(try clear hb2);(try clear hk);(try clear hi);(try clear ho0);(try clear ho1))|((with_reducible refine zn (N:=8) rfl ?_);(try (refine zBa zq15 ?_;dsimp only));refine zF ?hg (N:=8) ?hd (cs:= #[.slice none 0 0,.slice none 0 0]) (t:=37) ?hr ?_;(case hd=>rfl);(case hg=>rfl);(case hr=>first|(go_simp;done)|(go_simp;rfl));intro gb322 hg w49 hbox hb;have n0_:=zz (Kd.R_below (zq11 HO318.out) hb);have n1_:=zz (Kd.R_below (zq11 HO321.out) hb);have n2_:=zz (zo (g:=gb314) (o:= .cells #[.slice A0_0 l0_0.length c0_0,.slice A0_1 l0_1.length c0_1] 37 (0,0)) (zq0 BK314.out) hb);have n3_:=zz (zo (g:=gb315) (o:= .cells #[.slice none 0 0,.slice none 0 0] 37 (0,0)) (zq0 BK315.out) hb);have n4_:=zz (zh (zq2 GE314.out GE315.out) hb);have n5_:=zz (hbox);have n6_:=zz ((by rw [hg];exact (zi (zq2 GE314.out GE315.out)):w.heap.size≤gb322));have n7_:=zz ((by rw [hg];exact (zi (zq2 GE314.out GE315.out)):w.heap.size≤gb322));have n8_:=zz ((by rw [hg];exact Nat.ne_of_lt (zI (g:=gb314) (o:= .cells #[.slice A0_0 l0_0.length c0_0,.slice A0_1 l0_1.length c0_1] 37 (0,0)) (zq0 BK314.out)):gb314≠gb322));have n9_:=zz ((by rw [hg];exact Nat.ne_of_gt (zI (g:=gb314) (o:= .cells #[.slice A0_0 l0_0.length c0_0,.slice A0_1 l0_1.length c0_1] 37 (0,0)) (zq0 BK314.out)):gb322≠gb314));have n10_:=zz ((by rw [hg];exact Nat.ne_of_lt (zI (g:=gb315) (o:= .cells #[.slice none 0 0,.slice none 0 0] 37 (0,0)) (zq0 BK315.out)):gb315≠gb322));have n11_:=zz ((by rw [hg];exact Nat.ne_of_gt (zI (g:=gb315) (o:= .cells #[.slice none 0 0,.slice none 0 0] 37 (0,0)) (zq0 BK315.out)):gb322≠gb315));clear HO318;clear HO321;clear BK314;clear BK315;clear HB;have HO318:=n0_;have HO321:=n1_;have BK314:=n2_;have BK315:=n3_;have HB:=n4_;have BK322:=n5_;have GW322:=n6_;have GE322:=n7_;have NB314_322:=n8_;have NB322_314:=n9_;have NB315_322:=n10_;have NB322_315:=n11_;clear n0_ n1_ n2_ n3_ n4_ n5_ n6_ n7_ n8_ n9_ n10_ n11_;clear hb hbox hg;obtain ⟨Ao50,co50,eo50⟩:=Kd.R_slice HO318.out;subst eo50;have hnb51:=NB322_314.out;have hnc51:=NB314_322.out;have hnb52:=NB322_315.out;have hnc52:=NB315_322.out;have hcz53_0:w49.cell? ⟨gb322,0,none⟩=some (.slice none 0 0):=(zd BK322.out 0).trans rfl;have hcz53_1:w49.cell? ⟨gb322,1,none⟩=some (.slice none 0 0):=(zd BK322.out 1).trans rfl;have hfz53_0:=ze BK322.out 0;have hfz53_1:=ze BK322.out 1;obtain ⟨Ao54,co54,eo54⟩:=Kd.R_slice HO321.out;subst eo54;have hcz55_0:w49.cell? ⟨gb314,0,none⟩=some (.slice A0_0 l0_0.length c0_0):=(zd BK314.out 0).trans rfl;have hcz55_1:w49.cell? ⟨gb314,1,none⟩=some (.slice A0_1 l0_1.length c0_1):=(zd BK314.out 1).trans rfl;have hfz55_0:=ze BK314.out 0;have hfz55_1:=ze BK314.out 1)|((with_reducible refine zB (f:=83) rfl ?_);refine zR (some 12) rfl rfl Tryz.func83 zq7 rfl #[.agg #[.slice A0_0 l0_0.length c0_0,.slice A0_1 l0_1.length c0_1]] rfl zq4 ?_;(with_reducible refine (spec_DiskOk.calls k _ _ l0_0 _ _ l0_1 true _ ?side1 ?side2 ?side3 ?side4 A5.out).mono ?_);(case side1=>exact Kd.C_below HR0_0.out (zq9 GE314.out GE315.out GE322.out));(case side2=>exact HC0_0.out);(case side3=>exact Kd.C_below HR0_1.out (zq9 GE314.out GE315.out GE322.out));(case side4=>exact HC0_1.out);rintro e w56 ⟨rfl,hb⟩;refine ⟨_,rfl,?_⟩;have n0_:=zz (Kd.R_below (zq30 HO318.out BK322.out) hb);have n1_:=zz (Kd.R_below (zq30 HO321.out BK322.out) hb);have n2_:=zz (zo (g:=gb314) (o:= .cells #[.slice A0_0 l0_0.length c0_0,.slice A0_1 l0_1.length c0_1] 37 (0,0)) (by (with_reducible repeat (first|refine zm ?_ _|refine zu ?_|refine zl ?_ _));refine zQ ?_ NB314_322.out _;(with_reducible repeat (first|refine zm ?_ _|refine zu ?_|refine zl ?_ _));refine zQ ?_ NB314_322.out _;(with_reducible repeat (first|refine zm ?_ _|refine zu ?_|refine zl ?_ _));exact BK314.out) hb);have n3_:=zz (zo (g:=gb315) (o:= .cells #[.slice none 0 0,.slice none 0 0] 37 (0,0)) (by (with_reducible repeat (first|refine zm ?_ _|refine zu ?_|refine zl ?_ _));refine zQ ?_ NB315_322.out _;(with_reducible repeat (first|refine zm ?_ _|refine zu ?_|refine zl ?_ _));refine zQ ?_ NB315_322.out _;(with_reducible repeat (first|refine zm ?_ _|refine zu ?_|refine zl ?_ _));exact BK315.out) hb);have n4_:=zz (zo (g:=gb322) (o:= .cells #[.slice Ao50 t316.length co50,.slice Ao54 t319.length co54] 37 (0,0)) (by (with_reducible repeat (first|refine zm ?_ _|refine zu ?_|refine zl ?_ _));refine zT (cs:= #[.slice Ao50 t316.length co50,.slice none 0 0]) ?_ 1 _ rfl;(with_reducible repeat (first|refine zm ?_ _|refine zu ?_|refine zl ?_ _));refine zT (cs:= #[.slice none 0 0,.slice none 0 0]) ?_ 0 _ rfl;(with_reducible repeat (first|refine zm ?_ _|refine zu ?_|refine zl ?_ _));exact BK322.out) hb);have n5_:=zz (zh (zq9 GE314.out GE315.out GE322.out) hb);clear HO318;clear HO321;clear BK314;clear BK315;clear BK322;clear HB;have HO318:=n0_;have HO321:=n1_;have BK314:=n2_;have BK315:=n3_;have BK322:=n4_;have HB:=n5_;clear n0_ n1_ n2_ n3_ n4_ n5_;(try clear hb);(try clear hb2);(try clear hk);(try clear hi);have hcz57_0:w56.cell? ⟨gb314,0,none⟩=some (.slice A0_0 l0_0.length c0_0):=(zd BK314.out 0).trans rfl;have hcz57_1:w56.cell? ⟨gb314,1,none⟩=some (.slice A0_1 l0_1.length c0_1):=(zd BK314.out 1).trans rfl;have hfz57_0:=ze BK314.out 0;have hfz57_1:=ze BK314.out 1)|(go_at_call 77;(try simp only [zr]);(with_reducible refine (spec_l01In.calls a1 0 (wrap64 ((l0_0.length:Int)-1)) true _ A7.out).mono ?_);rintro e w' ⟨rfl,⟨nd,rfl⟩⟩;(try (rw [drewN_self w56];generalize hq_:World.drewN w56 _=w56;have n0_:Z0 (Kd.R Kd.string 9 w56 w.heap.size (fun _=>True) (.slice Ao50 t316.length co50) t316):=⟨by rw [←hq_];exact (zq11 HO318.out)⟩;have n1_:Z0 (Kd.R k110 110 w56 w.heap.size (fun _=>True) (.slice Ao54 t319.length co54) t319):=⟨by rw [←hq_];exact (zq11 HO321.out)⟩;have n2_:Z0 (w56.heap[gb314]?=some (.cells #[.slice A0_0 l0_0.length c0_0,.slice A0_1 l0_1.length c0_1] 37 (0,0))):=⟨by rw [←hq_];exact (zq0 BK314.out)⟩;have n3_:Z0 (w56.heap[gb315]?=some (.cells #[.slice none 0 0,.slice none 0 0] 37 (0,0))):=⟨by rw [←hq_];exact (zq0 BK315.out)⟩;have n4_:Z0 (w56.heap[gb322]?=some (.cells #[.slice Ao50 t316.length co50,.slice Ao54 t319.length co54] 37 (0,0))):=⟨by rw [←hq_];exact (zq0 BK322.out)⟩;have n5_:Z0 (Below w.heap.size w w56):=⟨by rw [←hq_];exact (zq9 GE314.out GE315.out GE322.out)⟩;clear HO318 HO321 BK314 BK315 BK322 HB hq_;have HO318:=n0_;have HO321:=n1_;have BK314:=n2_;have BK315:=n3_;have BK322:=n4_;have HB:=n5_;clear n0_ n1_ n2_ n3_ n4_ n5_));(try (have zcz_gb314_0:w56.cell? ⟨gb314,0,none⟩=some (.slice A0_0 l0_0.length c0_0):=(zd BK314.out 0).trans rfl));(try (have zfz_gb314_0:=ze BK314.out 0));(try (have zcz_gb314_1:w56.cell? ⟨gb314,1,none⟩=some (.slice A0_1 l0_1.length c0_1):=(zd BK314.out 1).trans rfl));(try (have zfz_gb314_1:=ze BK314.out 1));(try (have zcz_gb322_0:w56.cell? ⟨gb322,0,none⟩=some (.slice Ao50 t316.length co50):=(zd BK322.out 0).trans rfl));(try (have zfz_gb322_0:=ze BK322.out 0));(try (have zcz_gb322_1:w56.cell? ⟨gb322,1,none⟩=some (.slice Ao54 t319.length co54):=(zd BK322.out 1).trans rfl));(try (have zfz_gb322_1:=ze BK322.out 1));have hcz58_0:w56.cell? ⟨gb322,0,none⟩=some (.slice Ao50 t316.length co50):=(zd BK322.out 0).trans rfl;have hcz58_1:w56.cell? ⟨gb322,1,none⟩=some (.slice Ao54 t319.length co54):=(zd BK322.out 1).trans rfl;have hfz58_0:=ze BK322.out 0;have hfz58_1:=ze BK322.out 1)|((with_reducible refine zS (b:= .append) (xs:= #[.tmp 36,.tmp 40]) rfl ?_);(try (refine zBa zq15 ?_;dsimp only));at_builtin;refine Kd.R_append k110 (w0:=w) w.heap.size rfl (.tmp 36) (.tmp 40) 35 110 (.agg #[(.int .i64 0),(.string ⟨#[]⟩)]) 24 rfl Tryz.underlying35 info110 rfl zq14 zq5 (.slice Ao54 t319.length co54) t319 (⟨a1,a2⟩:S110) [.int .i64 a1,.string a2] (fun _=>True) (fun _=>False) rfl rfl ?aP (fun _ hk=>hk.elim) ?aF ?aO ?aB ?aS ?aL ?_;(case aP=>exact k110_mkM _ _ _ (⟨a1,a2⟩:S110));(case aB=>exact (zq9 GE314.out GE315.out GE322.out));(case aF=>exact (fun _ _=>trivial));(case aO=>exact (zq11 HO321.out));(case aS=>exact (zi (zq9 GE314.out GE315.out GE322.out)));(case aL=>have:=LMc43.out;omega);intro v326 w59 ho hb hg hat;rw [←Ny325.out] at ho;have n0_:=zz (zO (g:=gb314) (o:= .cells #[.slice A0_0 l0_0.length c0_0,.slice A0_1 l0_1.length c0_1] 37 (0,0)) (zq0 BK314.out) hg (Kd.R_ne HO321.out BK314.out zq14));have n1_:=zz (zO (g:=gb315) (o:= .cells #[.slice none 0 0,.slice none 0 0] 37 (0,0)) (zq0 BK315.out) hg (Kd.R_ne HO321.out BK315.out zq14));have n2_:=zz (Kd.R_over' (zq11 HO318.out) (Kd.R_typed (zq11 HO321.out)) zq14 hg);have n3_:=zz (zO (g:=gb322) (o:= .cells #[.slice Ao50 t316.length co50,.slice Ao54 t319.length co54] 37 (0,0)) (zq0 BK322.out) hg (Kd.R_ne HO321.out BK322.out zq14));have n4_:=zz (hb);have n5_:=zz (ho);clear BK314;clear BK315;clear HO318;clear BK322;clear HB;clear HO321;have BK314:=n0_;have BK315:=n1_;have HO318:=n2_;have BK322:=n3_;have HB:=n4_;have HO327:=n5_;clear n0_ n1_ n2_ n3_ n4_ n5_;clear ho hb hg hat;obtain ⟨Ao60,co60,eo60⟩:=Kd.R_slice HO327.out;subst eo60;have hcz61_0:w59.cell? ⟨gb322,0,none⟩=some (.slice Ao50 t316.length co50):=(zd BK322.out 0).trans rfl;have hcz61_1:w59.cell? ⟨gb322,1,none⟩=some (.slice Ao54 t319.length co54):=(zd BK322.out 1).trans rfl;have hfz61_0:=ze BK322.out 0;have hfz61_1:=ze BK322.out 1;have hcz62_0:w59.cell? ⟨gb315,0,none⟩=some (.slice none 0 0):=(zd BK315.out 0).trans rfl;have hcz62_1:w59.cell? ⟨gb315,1,none⟩=some (.slice none 0 0):=(zd BK315.out 1).trans rfl;have hfz62_0:=ze BK315.out 0;have hfz62_1:=ze BK315.out 1))
      refine bodyPost_ret (results_ct rfl _ _ gb315 37 #[.slice Ao50 t316.length co50,.slice Ao60 y325.length co60] (0,0) _ rfl (by (with_reducible repeat (first|refine zm ?_ _|refine zu ?_|refine zl ?_ _));refine zT (cs:= #[.slice Ao50 t316.length co50,.slice none 0 0]) ?_ 1 _ rfl;(with_reducible repeat (first|refine zm ?_ _|refine zu ?_|refine zl ?_ _));refine zT (cs:= #[.slice none 0 0,.slice none 0 0]) ?_ 0 _ rfl;(with_reducible repeat (first|refine zm ?_ _|refine zu ?_|refine zl ?_ _));refine zQ ?_ NB315_322.out _;(with_reducible repeat (first|refine zm ?_ _|refine zu ?_|refine zl ?_ _));exact BK315.out) Tryz.underlying37 rfl zq7) rfl ?_
      exact ⟨_,_,by first|rfl|(simp [zw,zv]<;>rfl)|(simp [*,zw,zv]<;>rfl),by (with_reducible repeat (first|apply Kd.R_alloc|apply Kd.R_drewN|apply Kd.R_drew));exact Kd.R_mono (Kd.R_far (p:=⟨gb315,1,none⟩) (Kd.R_far (p:=⟨gb315,0,none⟩) (Kd.R_far (p:=⟨gb322,1,none⟩) (Kd.R_types (Kd.R_types HO318.out BK322.out zq14) BK315.out zq14) (fun _ hk=>hk.1.2) (.slice Ao60 y325.length co60)) (fun _ hk=>hk.2) (.slice Ao50 t316.length co50)) (fun _ hk=>hk.2) (.slice Ao60 y325.length co60)) (fun _ hk=>trivial),by (with_reducible repeat (first|apply Kd.R_alloc|apply Kd.R_drewN|apply Kd.R_drew));exact Kd.R_mono (Kd.R_far (p:=⟨gb315,1,none⟩) (Kd.R_far (p:=⟨gb315,0,none⟩) (Kd.R_far (p:=⟨gb322,1,none⟩) (Kd.R_types (Kd.R_types HO327.out BK322.out zq14) BK315.out zq14) (fun _ hk=>hk.1.2) (.slice Ao60 y325.length co60)) (fun _ hk=>hk.2) (.slice Ao50 t316.length co50)) (fun _ hk=>hk.2) (.slice Ao60 y325.length co60)) (fun _ hk=>trivial),by repeat (first|(with_reducible first|exact HB.out|apply zf|apply zg|apply zj|refine zx ?_ GE314.out|refine zx ?_ GE315.out|refine zx ?_ GE322.out)|exact HB.out)⟩
     ·rw [if_neg c43] at H
      exact absurd H zq16
  ·replace c8:=Bool.eq_false_iff.mpr c8
   subst c8
   have H1:(some (t316,t319,false))=some (r1,r2,true):=by rw [if_neg (show ¬(false=true) by decide)] at H;exact H
   clear H
   have H:=H1
   clear H1
   simp only [Option.some.injEq,Prod.mk.injEq] at H
   exact absurd H.2.2 zq14
 ·replace c6:=Bool.eq_false_iff.mpr c6
  subst c6
  have H1:(some (t316,t319,false))=some (r1,r2,true):=by rw [if_neg (show ¬(false=true) by decide)] at H;exact H
  clear H
  have H:=H1
  clear H1
  simp only [Option.some.injEq,Prod.mk.injEq] at H
  exact absurd H.2.2 zq14
theorem writeS_t (k:Nat) (z z':(List ByteArray×List S110)) (a:Int) (t:ByteArray) {cs:List Value} (w:World) (h:kDisk.K w z cs) (hf:spec_WritePage.f k z.1 z.2 a t=some (z'.1,z'.2,true)):
  Calls Tryz.prog 38 #[.agg cs.toArray,.int .i64 a,.string t] w fun e w'=>∃ds:List Value,e= .returned (.tuple #[.agg ds.toArray,.bool true])∧kDisk.M w' w.heap.size (Fr w w') z' ds∧Below w.heap.size w w':=by
 obtain ⟨l0,l1⟩:=z
 obtain ⟨q0,q1⟩:=z'
 obtain ⟨A0,c0,A1,c1,rfl,m0,r0,m1,r1⟩:=zCa h
 refine (spec_WritePage.callsT k A0 c0 l0 A1 c1 l1 a t q0 q1 w r0 m0 r1 m1 hf).mono ?_
 rintro e w' ⟨v0,v1,rfl,R0,R1,hb⟩
 have T0:=Own.R_tightB rfl R0
 have T1:=Own.R_tightB rfl R1
 exact ⟨[v0,v1],rfl,znb T0.1 T1.1 T0.2.1 T1.2.1 (Own.types_ne T0.2.2 T1.2.2 zq14),hb⟩
end Go.Proofs.YtonhdiemjgdcnaaGreat.PFnExactGivePage
