import Derived.Test.YtonhdiemjgdcnaaOA5
import Derived.Lib.Bytes
import Derived.Lib.Strings
import Derived.Laws.Bits128
import Derived.Laws.BitsAllLaws
import Derived.Lib.SliceRun
import Derived.Shelf.Sort.Plain
import Derived.Ground.Names2Prog
import Derived.Shelf.Slices.In.SortNone
import Derived.Sort.OwnSortedInts
set_option maxHeartbeats 64000000
set_option maxRecDepth 100000
set_option linter.unusedVariables false
set_option linter.unusedSimpArgs false
namespace Go.Proofs
theorem zq2{P:Prop}(h:P:=by show Act.put _ (some _) _=_;simp only [Act.put,List.setIfInBounds_toArray,List.set_cons_zero,List.set_cons_succ,zxa,i32_w];try rfl):P:=h
theorem zq20{P:Prop}(h:P:=by (try simp only [List.map_toArray,List.map_cons,List.map_nil]);first|done|rfl):P:=h
theorem zq44{P:Prop}(h:P:=by rintro w' ⟨s0,s1,s2,s3,s4,s5,s6⟩;go_simp;with_reducible rfl):P:=h
theorem zq46{P:Prop}(h:P:=by first|(rw [i2];with_reducible exact H)|(have H2_:=(Option.bind_some _ _).symm.trans H;rw [i2];with_reducible exact H2_)|(have H2_:=(Option.bind_some _ _).symm.trans H;with_reducible exact H2_)|with_reducible exact H|(rw [i2];exact H)|exact H):P:=h
theorem zq70{P:Prop}(h:P:=by rw [w64 (by omega) (by omega)];omega):P:=h
theorem zq75{P:Prop}(h:P:=by rintro w' ⟨s0,s1,s2⟩;go_simp;with_reducible rfl):P:=h
theorem zq85{P:Prop}(h:P:=by
 clear hHeld
 have HB2:=zz (zf (z0a _ _).drew hb)
 clear hp0 hp1 hp2 hp3 hf0 hf1 hb
 replace HS:=zz (HS.1.step HB2.1)
 replace BF:=zz (zj BF.1 HB2.1)
 clear HB2 KE1
 have hf1:w2.cell? ⟨gF,1,none⟩=some (.slice A1 el.f1.length c11):=(zd BF.1 1).trans rfl
 go_wp2_with fail
 clear hf1
 go_loopg [3,72] (el.f1.length+1) (fun kq v3 v6 w'=>∃(k:Nat) (v:Value),v3=v∧v6= .int .i64 (k:Int)∧Z0 (kq+k=el.f1.length+1)∧Z0 (k≤el.f1.length)∧Z0 (∀(j:Nat) (p:Int),j<k→el.f1[j]?=some p→PgOk x (zja x i) el.f1 j p)∧Z0 (SeenAt w w' [.int .i64 x.f0,.int .i64 x.f1,.int .i64 x.f2,.slice (some ad) x.f3.length cF] (zja x i++el.f1.take k) v)∧Z0 (w'.heap[gF]?=some (.cells ([.int .i64 el.f0,.slice A1 el.f1.length c11]:List Value).toArray 122 (0,0)))∧Z0 (∀q,v.ownBlock=some q→q≠gF))
 case atStart=>exact ⟨0,_,rfl,rfl,⟨zq3⟩,⟨z7a _⟩,⟨fun j p h=>absurd h (Nat.not_lt_zero _)⟩,⟨by rw [List.take_zero,List.append_nil];exact HS.1⟩,BF,⟨fun q hq=>Nat.ne_of_lt (OW.1 q hq)⟩⟩
 case round=>
  clear HS BF OW
  obtain ⟨k,v,rfl,rfl,HQ2,HI2,HP2,HS,BF,OW⟩:=hrel
  obtain ⟨sn,hsn⟩:∃sn,sn=zja x i++el.f1.take k:=⟨_,rfl⟩
  have hsl2:sn.length≤2000000:=by
   have h1:=seen_len2 (fun j f hj hf=>(HP.1 j f hj hf).1.2.2.2) i (z2a _) HI.1
   have h2:=List.length_take_le k el.f1
   have h3:=HI.1
   have h4:=HI2.1
   rw [hsn,List.length_append]
   omega
  rw [←hsn] at HS
  have HSN:=zz hsn
  clear hsn
  obtain ⟨Av,cv,rfl⟩:=Kd.R_slice HS.1.row
  by_cases hk:k<el.f1.length
  ·have d1:decide ((k:Int)<(el.f1.length:Int))=true:=z6 zq3
   have d0:decide ((0:Int)≤(k:Int))=true:=z6 zq3
   have d2:((k:Int)<(el.f1.length:Int))=True:=eq_true zq3
   have d3:((0:Int)≤(k:Int))=True:=eq_true zq3
   cases gk with
   |zero=>exact absurd HQ2.1 zq3
   |succ k2=>
    obtain ⟨ap,hAp,pc⟩:=C_at KE.1 hk
    subst hAp
    obtain ⟨p,hp⟩:∃p,p=el.f1[k]:=⟨_,rfl⟩
    rw [←hp] at pc
    have HPK:=zz (show el.f1[k]?=some p from by rw [hp];exact List.getElem?_eq_getElem hk)
    clear hp
    replace pc:=ze pc HS.1.bel
    have KS:=zz (Kd.R_reads' HS.1.row).2.2
    by_cases hin:p∈sn
    ·have eS:hasB sn p=true:=z6 hin
     have HBF:=zz (bfalse HB.1 (fun hm=>((hm.2 i el HE.1).2 k p HPK.1).2.2 (by rw [←HSN.1];exact hin)))
     clear hin
     go_wp2_with (((with_reducible refine (hasI _ _ _ _ _ KS.1 hsl2).mono ?_);rintro e w1 ⟨rfl,rfl⟩;rw [eS]))
     go_ret
     exact ⟨rb HBF.1,HS.1.bel⟩
    ·have eS:hasB sn p=false:=z7 hin
     have HPG:=zz (show PgOk x (zja x i) el.f1 k p from ⟨(HFO.1.1 k p HPK.1).1,(HFO.1.1 k p HPK.1).2,by rw [←HSN.1];exact hin⟩)
     clear hin
     go_wp2_with (first|((with_reducible refine (hasI _ _ _ _ _ KS.1 hsl2).mono ?_);rintro e w1 ⟨rfl,rfl⟩;rw [eS])|((with_reducible refine zfa (b:= .append) (xs:= #[.tmp 79,.tmp 81]) rfl ?_);at_builtin;refine seen_app rfl (.tmp 79) (.tmp 81) rfl rfl rfl HS.1 BF.1 OW.1 hsl2 ?_;intro v1 w1 HS1 BF1 OW1))
     exact zq164
  ·have d1:decide ((k:Int)<(el.f1.length:Int))=false:=z7 zq3
   have hk2:k=el.f1.length:=zq37 HI2.1
   have hsn:sn=zja x (i+1):=zq76
   have HSN2:=zz hsn
   have HK2:=zz hk2
   clear hsn hk2
   go_wp2
   go_roundg k1
   case measure=>omega
   case rel=>exact ⟨i+1,_,rfl,by go_num,⟨by have:=HQ.1;omega⟩,⟨zq3⟩,⟨fun j f hj hf=>by
    rcases Nat.lt_or_ge j i with h2|h2
    ·exact HP.1 j f h2 hf
    ·obtain rfl:j=i:=zq3
     have:=HE.1.symm.trans hf
     injection this with this
     subst this
     exact ⟨HFR.1,fun k p hp=>HP2.1 k p (by rw [HK2.1];exact (List.getElem?_eq_some_iff.1 hp).1) hp⟩⟩,⟨by rw [←HSN2.1];exact HS.1⟩⟩):P:=h
theorem zq95{P:Prop}(h:P:=by
 repeat' first
 |(with_reducible exact ih0 _ _ _ _)
 |(with_reducible exact ih1 _ _ _ _ _)
 |(with_reducible exact LeO.refl _)
 |(with_reducible exact LeO.none _)
 |(with_reducible refine LeO.ite ?_ ?_)
 |(with_reducible refine LeO.bind ?_ (fun _=> ?_))
 |exact ih0 _ _ _ _
 |exact ih1 _ _ _ _ _):P:=h
theorem zq117{P:Prop}(h:P:=by
 repeat' first
   |(with_reducible exact ih0 _ _ _ _)
   |(with_reducible exact ih1 _ _ _ _ _)
   |(with_reducible exact LeO.refl _)
   |(with_reducible exact LeO.none _)
   |(with_reducible refine LeO.ite ?_ ?_)
   |(with_reducible refine LeO.bind ?_ (fun _=> ?_))
   |exact ih0 _ _ _ _
   |exact ih1 _ _ _ _ _):P:=h
theorem zq121{P:Prop}(h:P:=by
 repeat' first
 |(with_reducible exact ih0 _ _ _)
 |(with_reducible exact ih1 _ _ _ _)
 |(with_reducible exact LeO.refl _)
 |(with_reducible exact LeO.none _)
 |(with_reducible refine LeO.ite ?_ ?_)
 |(with_reducible refine LeO.bind ?_ (fun _=> ?_))
 |exact ih0 _ _ _
 |exact ih1 _ _ _ _):P:=h
theorem zq132{P:Prop}(h:P:=by
 clear hq
 clear h
 go_wp2_with ((with_reducible refine (impl_seal.calls k s (sl s) _ (HV.1.sI s zq3)).mono ?_);rintro e w2 ⟨rfl,hb⟩;have HB2:=zz hb;clear hb)
 go_ret2
 exact ⟨by first|exact rt2 HT0.1.symm|rfl,zf BA.1.bel HB2.1⟩):P:=h
theorem zq138{P:Prop}(h:P:=by
 clear h
 go_wp2_with ((with_reducible refine (spec_Sealed.calls k s t0 true _ (by rw [HT0.1];exact HV.1.sS s zq3)).mono ?_);rintro e w2 ⟨rfl,hb⟩;have HB2:=zz hb;clear hb hp3)
 go_ret2
 exact ⟨rfl,zf BA.1.bel HB2.1⟩):P:=h
theorem zq143{P:Prop}(h:P:=by
 have h1:=facc_size HV.1.vz (mhead vt x) (x.f3.take i) (fun f hf=>HO.1.le40 f (List.mem_of_mem_take hf))
 have h2:=mhead_size HV.1.vz x
 have h3:=List.length_take_le i x.f3
 have h4:=HI.1
 rw [hs]
 omega):P:=h
theorem zq144{P:Prop}(h:P:=by
 have H':=zz H
 clear H
 go_wp2
 go_roundg k2
 case measure=>have:=HK1.1;have:=HK2.1;omega
 case rel=>exact ⟨(x2),(wrap64 (x1+1)),zq10,zq10,H',⟨by have:=HK1.1;have:=HK2.1;omega⟩,zq15⟩):P:=h
theorem zq159{P:Prop}(h:P:=by
 rcases HM.1 with h|h|h
 ·exact absurd HO.1 h.1
 ·exact .inl (by rw [ht0,HSB.1];exact h.2)
 ·exact .inr (by rw [ht0,HSB.1];exact h.2)):P:=h
end Go.Proofs
namespace Go.Proofs.Ytonhdiemjgdcnaa.PFnExactGivePage
open Go.RowKit Go.Proofs.YtonhdiemjgdcnaaW.PrintWords Go.Proofs.YtonhdiemjgdcnaaW.PrintLast Go.Proofs.YtonhdiemjgdcnaaW.PrintMore
attribute [local go_sem] zV zU zia zha zP zN zS zT
def IdxP (xs:List Int) (x:Int) (w:World) (e:Ending) (w':World):Prop:=∃r:Int,e= .returned (.int .i64 r)∧w=w'∧decide (0≤r)=hasB xs x
theorem idxI (xs:List Int) (x:Int) (A:Option Addr) (c:Nat) (w:World) (h:Kd.C (Kd.int .i64) w A xs.length xs) (hl:xs.length≤2000000):Calls Try.prog 141 #[.slice A xs.length c,.int .i64 x] w (IdxP xs x w):=by
 have H:=zz h
 clear h
 go_enter Try.func141,Try.ntmps141
 go_wp2
 go_loop [8] (fun v5=>∃i:Nat,v5= .int .i64 (i:Int)∧i≤xs.length∧Z0 (x∉xs.take i)) (fun v5=>xs.length-(intOf v5).toNat)
 case atStart=>exact ⟨0,rfl,z7a _,⟨by simp⟩⟩
 case round=>
  obtain ⟨i,rfl,hi,HN⟩:=hrel
  by_cases hlt:i<xs.length
  ·obtain ⟨ad,hA,hc⟩:=C_at H.1 hlt
   subst hA
   have c3:((0:Int)≤(i:Int))=True:=eq_true zq3
   have c2:((i:Int)<(xs.length:Int))=True:=eq_true zq3
   obtain ⟨y,hy⟩:∃y,y=xs[i]:=⟨_,rfl⟩
   rw [←hy] at hc
   have HY:=zz hy
   clear hy
   by_cases e:x=y
   ·have HE:=zz e
    have e1:(x==y)=true:=beq_iff_eq.2 e
    clear e
    go_wp2
    go_ret
    exact ⟨i,rfl,rfl,by rw [show hasB xs x=true from decide_eq_true (by rw [HE.1,HY.1];exact List.getElem_mem hlt)];exact z6 zq3⟩
   ·have e1:(x==y)=false:=beq_eq_false_iff_ne.2 e
    have HE:=zz e
    clear e
    go_wp2
    go_round
    case rel=>exact ⟨i+1,by go_num,zq3,⟨by
     rw [List.take_succ_eq_append_getElem hlt,←HY.1]
     simp only [List.mem_append,List.mem_singleton,not_or]
     exact ⟨HN.1,fun h=>HE.1 h⟩⟩⟩
    case measure=>simp [intOf];omega
  ·have HI:=zz (show i=xs.length by omega)
   go_wp2
   go_ret
   exact ⟨-1,rfl,rfl,by rw [show hasB xs x=false from decide_eq_false (by have:=HN.1;rwa [HI.1,List.take_length] at this)];rfl⟩
theorem hasI (xs:List Int) (x:Int) (A:Option Addr) (c:Nat) (w:World) (h:Kd.C (Kd.int .i64) w A xs.length xs) (hl:xs.length≤2000000):Calls Try.prog 97 #[.slice A xs.length c,.int .i64 x] w fun e w'=>e= .returned (.bool (hasB xs x))∧w=w':=by
 have H:=zz h
 clear h
 go_enter Try.func97,Try.ntmps97
 go_wp2_with ((with_reducible refine (idxI xs x A c _ H.1 hl).mono ?_);rintro e w1 ⟨r,rfl,rfl,hr⟩;have HR:=zz hr;clear hr)
 go_ret
 exact ⟨rb HR.1,rfl⟩
def implMetaOk.T7:Bool×List (List Nat×List Nat):=(true,[([],[]),([],[]),([0,1],[0,1]),([2],[2]),([3,2],[3]),([4],[4]),([5,4],[4,5]),([6,4,4],[4,6]),([7],[7]),([8,7],[7,8]),([7],[7]),([10,7],[7,10]),([9,11,7],[7,9,11]),([12,7],[7,12]),([13,7],[7,13]),([7],[7]),([15,7],[7,15]),([14,16,7],[7,14,16]),([7,17,4],[4,7,17]),([4,18],[4,18])])
def implMetaOk.B7:List Nat:=[0,0,3,7,15,31,63,127,255,511,255,1279,4095,8191,16383,255,33023,131071,262143,524287]
theorem implMetaOk.ok7_0:regB (zgb Try.f144 7) implMetaOk.T7 implMetaOk.B7 [] [.t 0,.t 1,.e 2,.p 3,.p 4,.p 5,.p 6,.p 7,.p 8,.p 9,.p 10,.p 11,.p 12,.p 13,.p 14,.p 15,.p 16,.p 17,.p 18,.p 19]=true:=zq8
theorem implMetaOk.ok7_1:regB (zgb Try.f144 7) implMetaOk.T7 implMetaOk.B7 [] [.t 0,.t 1,.e 2,.p 3,.p 4,.p 5,.p 6,.p 7,.p 8,.t 9,.p 10,.p 11,.p 12,.p 13,.t 14,.p 15,.t 16,.p 17,.p 18,.p 19]=true:=zq8
theorem fi_ways (x:S53) (i:Nat) (f:S122) (b:Bool) (hb:b=true↔MOk x) (hi:x.f3[i]?=some f):∃fb:Bool,(fb=true↔FreeOk f x)∧
  ((false=b∧(fb=false∨(fb=true∧∃p,x.f3[i-1]?=some p∧0<i∧f.f0≤p.f0)))∨(FrHead x i f∧FreeOk f x∧fb=true∧(i=0∨∃p,x.f3[i-1]?=some p∧0<i∧¬f.f0≤p.f0))):=by
 have hilt:=(List.getElem?_eq_some_iff.1 hi).1
 by_cases hf:FreeOk f x
 ·refine ⟨true,by simp [hf],?_⟩
  have nb:¬FrHead x i f→false=b:=fun h=>bfalse hb (fun hm=>h (hm.2 i f hi).1)
  by_cases hz:i=0
  ·exact .inr ⟨⟨hf.2.1,fun g h0 _=>absurd h0 zq3,hf.2.2⟩,hf,rfl,.inl hz⟩
  ·have hp:x.f3[i-1]?=some (x.f3[i-1]'zq3):=List.getElem?_eq_getElem zq3
   by_cases h2:f.f0≤(x.f3[i-1]'zq3).f0
   ·exact .inl ⟨nb (fun h=>by have:=h.2.1 _ zq3 hp;omega),.inr ⟨rfl,_,hp,zq3,h2⟩⟩
   ·exact .inr ⟨⟨hf.2.1,fun g _ hg=>by rw [hp] at hg;injection hg with hg;subst hg;omega,hf.2.2⟩,hf,rfl,.inr ⟨_,hp,zq3,h2⟩⟩
 ·refine ⟨false,by simp [hf],.inl ⟨bfalse hb (fun hm=>hf ?_),.inl rfl⟩⟩
  obtain ⟨h1,h2⟩:=hm.2 i f hi
  exact ⟨fun k p hk=>⟨(h2 k p hk).1,(h2 k p hk).2.1⟩,h1.1,h1.2.2⟩
theorem implMetaOk_c (x:S53) (b:Bool) {cs:List Value} (w:World) (h:k53.K w x cs) (hb:b=true↔MOk x):
  Calls Try.prog 144 #[.agg cs.toArray] w fun e w'=>e= .returned (.bool b)∧Below w.heap.size w w':=by
 obtain ⟨AF,cF,rfl,mF,rF⟩:=zYa h
 have KR:=zz rF
 have HB:=zz hb
 have bn:=rF.2.1
 have hbl:=zz (zi (z0a w.heap.size w) (.cells #[.int .i64 x.f0,.int .i64 x.f1,.int .i64 x.f2,.slice AF x.f3.length cF] 53))
 clear h mF rF hb
 by_cases hh:MHead x
 ·obtain ⟨h0,h2,h1,hl⟩:=hh
  have HH:=zz (show MHead x from ⟨h0,h2,h1,hl⟩)
  have e0:=zHa h0
  have e2:=zHa h2
  have bl:(20<(x.f3.length:Int))=False:=eq_false zq3
  obtain ⟨h2a,h2b⟩:=h2
  clear h0
  have hv:((x.f1 !=0)=false∧(x.f1==0)=true)∨((x.f1 !=0)=true∧(x.f1==0)=false∧inB x.f1 2 (x.f2-1)=true):=by
   rcases h1 with h1|h1
   ·exact .inl (by simp [h1])
   ·exact .inr ⟨zq80,zq80,zHa h1⟩
  clear h1
  rcases hv with ⟨e1,e1'⟩|⟨e1,e1',e1''⟩
  all_goals
   go_enter Try.func144,Try.ntmps144
   go_wp2_with (((with_reducible refine (inI _ _ _ _).mono ?_);rintro e w1 ⟨rfl,rfl⟩))
   have H0:=zz (seen0 x [.int .i64 x.f0,.int .i64 x.f1,.int .i64 x.f2,.slice AF x.f3.length cF] w)
   go_loopg [3,44] (x.f3.length+1) (fun kq v3 v4 w'=>∃(i:Nat) (v:Value),v3=v∧v4= .int .i64 (i:Int)∧Z0 (kq+i=x.f3.length+1)∧Z0 (i≤x.f3.length)∧Z0 (∀(j:Nat) (f:S122),j<i→x.f3[j]?=some f→FrHead x j f∧FrPages x j f)∧Z0 (SeenAt w w' [.int .i64 x.f0,.int .i64 x.f1,.int .i64 x.f2,.slice AF x.f3.length cF] (zja x i) v))
   case atStart=>exact ⟨0,_,rfl,rfl,⟨zq3⟩,⟨z7a _⟩,⟨fun j f h=>absurd h (Nat.not_lt_zero _)⟩,H0⟩
   case round=>
    clear H0 e0 e1 e1' e2 bl hbl
    obtain ⟨i,v,rfl,rfl,HQ,HI,HP,HS⟩:=hrel
    by_cases hlt:i<x.f3.length
    ·have c1:decide ((i:Int)<(x.f3.length:Int))=true:=z6 zq3
     have c0:decide ((0:Int)≤(i:Int))=true:=z6 zq3
     have c2:((i:Int)<(x.f3.length:Int))=True:=eq_true zq3
     have c3:((0:Int)≤(i:Int))=True:=eq_true zq3
     cases gk with
     |zero=>exact absurd HQ.1 zq3
     |succ k1=>
      obtain ⟨ad,A1,c11,hA,z0,z1,hl4,hC4⟩:=at_T122 KR.1 (i:Int) zq3 zq3
      subst hA
      obtain ⟨el,hel⟩:∃el,el=zJ x.f3 (i:Int):=⟨_,rfl⟩
      have hel2:x.f3[i]?=some el:=zq60
      rw [←hel] at z0 z1 hl4 hC4
      simp only [Int.toNat_natCast] at z0 z1
      replace z0:=(HS.1.bel.cell (z9 w _ z0)).trans z0
      replace z1:=(HS.1.bel.cell (z9 w _ z1)).trans z1
      have HE:=zz hel2
      have KE:=zz hC4
      have be:el.f1.length≤9223372036854775807:=hC4.2.1
      have hz:=zE HS.1.box
      clear hel hel2 hC4 hl4
      go_upto_region 7 with (fail)
      obtain ⟨W1,hW1⟩:∃W1,W1=wr.alloc (.cells #[.int .i64 el.f0,.slice A1 el.f1.length c11] 122):=⟨_,rfl⟩
      have BF:=zz (show W1.heap[wr.heap.size]?=some (.cells ([.int .i64 el.f0,.slice A1 el.f1.length c11]:List Value).toArray 122 (0,0)) from by rw [hW1];exact zM wr _)
      have HB1:=zz (show Below wr.heap.size wr W1 from by rw [hW1];exact zi (z0a _ _) _)
      rw [←hW1]
      clear hW1 z0 z1
      obtain ⟨gF,hgF⟩:∃g,g=wr.heap.size:=⟨_,rfl⟩
      rw [←hgF] at BF hz ⊢
      have OW:=zz (show ∀k,u3.ownBlock=some k→k<gF from by rw [hgF];exact Kd.R_lt HS.1.row)
      replace HS:=zz (HS.1.step HB1.1)
      clear HB1 hgF
      have hp0:W1.cell? ⟨w.heap.size,0,none⟩=some (.int .i64 x.f0):=(zd HS.1.box 0).trans rfl
      have hp1:W1.cell? ⟨w.heap.size,1,none⟩=some (.int .i64 x.f1):=(zd HS.1.box 1).trans rfl
      have hp2:W1.cell? ⟨w.heap.size,2,none⟩=some (.int .i64 x.f2):=(zd HS.1.box 2).trans rfl
      have hp3:W1.cell? ⟨w.heap.size,3,none⟩=some (.slice (some ad) x.f3.length cF):=(zd HS.1.box 3).trans rfl
      have hf0:W1.cell? ⟨gF,0,none⟩=some (.int .i64 el.f0):=(zd BF.1 0).trans rfl
      have hf1:W1.cell? ⟨gF,1,none⟩=some (.slice A1 el.f1.length c11):=(zd BF.1 1).trans rfl
      obtain ⟨fb,hfb,hways⟩:=fi_ways x i el b HB.1 HE.1
      have HFB:=zz hfb
      clear hfb
      have KE1:=zz (Kd.C_below KE.1 HS.1.bel)
      rcases hways with ⟨hbf,hways⟩|⟨hFr,hFo,eT,hways⟩
      ·have HBF:=zz hbf
       clear hbf
       rcases hways with rfl|⟨rfl,p,hp,h0,hle⟩
       ·refine zsa implMetaOk.ok7_0 (S:=fun w'=>w'.cell? ⟨gF,0,none⟩=some (.int .i64 el.f0)∧w'.cell? ⟨gF,1,none⟩=some (.slice A1 el.f1.length c11)∧w'.cell? ⟨w.heap.size,0,none⟩=some (.int .i64 x.f0)∧w'.cell? ⟨w.heap.size,1,none⟩=some (.int .i64 x.f1)∧w'.cell? ⟨w.heap.size,2,none⟩=some (.int .i64 x.f2)∧w'.cell? ⟨w.heap.size,3,none⟩=some (.slice (some ad) x.f3.length cF)) zq8 (fun _ _ _ _ h=>h) ⟨ze hf0 (z0a _ _).drew,ze hf1 (z0a _ _).drew,ze hp0 (z0a _ _).drew,ze hp1 (z0a _ _).drew,ze hp2 (z0a _ _).drew,ze hp3 (z0a _ _).drew⟩ (fun hHeld=> ?_)
        iterate 2 (refine zQa (v:= ?_) (a':= ?_) rfl rfl (Or.inl ⟨zq19,by rintro w' ⟨s0,s1,s2,s3,s4,s5⟩;go_simp;with_reducible rfl⟩) zq2 ?_)
        refine zX rfl rfl Try.func171 zq8 rfl #[.agg #[.int .i64 el.f0,.slice A1 el.f1.length c11],.agg #[.int .i64 x.f0,.int .i64 x.f1,.int .i64 x.f2,.slice (some ad) x.f3.length cF]] zq19 rfl zq20 ?_
        with_reducible refine (freeOk_c el x false _ (Kd.C_below KE1.1 (z0a _ _).drew) HFB.1).mono ?_
        rintro e w2 ⟨rfl,hb⟩
        refine ⟨_,rfl,⟨ze (ze hf0 (z0a _ _).drew) hb,ze (ze hf1 (z0a _ _).drew) hb,ze (ze hp0 (z0a _ _).drew) hb,ze (ze hp1 (z0a _ _).drew) hb,ze (ze hp2 (z0a _ _).drew) hb,ze (ze hp3 (z0a _ _).drew) hb⟩,(fun hHeld=> ?_)⟩
        refine zR (a':= ?_) zq2 ?_
        iterate 2 (refine zY (v:= ?_) (a':= ?_) rfl rfl (Or.inl ⟨zq19,zq5⟩) zq2 ?_)
        iterate 14 (refine zY (v:=undef) (a':= ?_) rfl rfl (Or.inr ⟨zq19,rfl⟩) ?_ ?_;rotate_left;(· show Act.put _ (some _) _=_;simp only [Act.put,List.setIfInBounds_toArray,List.set_cons_zero,List.set_cons_succ,zxa,i32_w];try rfl))
        (refine zY (v:= ?_) (a':= ?_) rfl rfl (Or.inl ⟨zq19,zq5⟩) zq2 ?_)
        refine zKa ?_
        go_wp2
        go_ret
        exact ⟨rb HBF.1,zf HS.1.bel (zf (z0a _ _).drew hb)⟩
       ·have q1:decide ((0:Int)<(i:Int))=true:=z6 zq3
        have q2:decide (0<i)=true:=z6 zq3
        have hs1:IntKind.i64.wrap ((i:Int)-1)=((i-1:Nat):Int):=zq56
        have hs2:(0:Int)≤((i-1:Nat):Int):=zq3
        have hs3:((i-1:Nat):Int)<(x.f3.length:Int):=zq3
        obtain ⟨ad2,hA2,zp⟩:=prev_at KR.1 hp
        injection hA2 with hA2
        subst hA2
        clear hp
        replace zp:=ze zp HS.1.bel
        have q3:decide (el.f0≤p.f0)=true:=z6 hle
        refine zsa implMetaOk.ok7_1 (S:=fun w'=>w'.cell? ⟨gF,0,none⟩=some (.int .i64 el.f0)∧w'.cell? ⟨gF,1,none⟩=some (.slice A1 el.f1.length c11)∧w'.cell? ⟨w.heap.size,0,none⟩=some (.int .i64 x.f0)∧w'.cell? ⟨w.heap.size,1,none⟩=some (.int .i64 x.f1)∧w'.cell? ⟨w.heap.size,2,none⟩=some (.int .i64 x.f2)∧w'.cell? ⟨w.heap.size,3,none⟩=some (.slice (some ad) x.f3.length cF)∧w'.cell? (ad.add ((i-1)*2))=some (.int .i64 p.f0)) zq8 (fun _ _ _ _ h=>h) ⟨ze hf0 (z0a _ _).drew,ze hf1 (z0a _ _).drew,ze hp0 (z0a _ _).drew,ze hp1 (z0a _ _).drew,ze hp2 (z0a _ _).drew,ze hp3 (z0a _ _).drew,ze zp (z0a _ _).drew⟩ (fun hHeld=> ?_)
        iterate 2 (refine zQa (v:= ?_) (a':= ?_) rfl rfl (Or.inl ⟨zq19,zq44⟩) zq2 ?_)
        refine zX rfl rfl Try.func171 zq8 rfl #[.agg #[.int .i64 el.f0,.slice A1 el.f1.length c11],.agg #[.int .i64 x.f0,.int .i64 x.f1,.int .i64 x.f2,.slice (some ad) x.f3.length cF]] zq19 rfl zq20 ?_
        with_reducible refine (freeOk_c el x true _ (Kd.C_below KE1.1 (z0a _ _).drew) HFB.1).mono ?_
        rintro e w2 ⟨rfl,hb⟩
        refine ⟨_,rfl,⟨ze (ze hf0 (z0a _ _).drew) hb,ze (ze hf1 (z0a _ _).drew) hb,ze (ze hp0 (z0a _ _).drew) hb,ze (ze hp1 (z0a _ _).drew) hb,ze (ze hp2 (z0a _ _).drew) hb,ze (ze hp3 (z0a _ _).drew) hb,ze (ze zp (z0a _ _).drew) hb⟩,(fun hHeld=> ?_)⟩
        refine zR (a':= ?_) zq2 ?_
        iterate 6 (refine zY (v:= ?_) (a':= ?_) rfl rfl (Or.inl ⟨zq19,zq5⟩) zq2 ?_)
        (refine zQa (v:= ?_) (a':= ?_) rfl rfl (Or.inl ⟨zq19,zq44⟩) zq2 ?_)
        iterate 4 (refine zY (v:= ?_) (a':= ?_) rfl rfl (Or.inl ⟨zq19,zq5⟩) zq2 ?_)
        (refine zQa (v:= ?_) (a':= ?_) rfl rfl (Or.inl ⟨zq19,zq44⟩) zq2 ?_)
        (refine zY (v:= ?_) (a':= ?_) rfl rfl (Or.inl ⟨zq19,zq5⟩) zq2 ?_)
        (refine zQa (v:= ?_) (a':= ?_) rfl rfl (Or.inl ⟨zq19,zq44⟩) zq2 ?_)
        iterate 3 (refine zY (v:= ?_) (a':= ?_) rfl rfl (Or.inl ⟨zq19,zq5⟩) zq2 ?_)
        refine zKa ?_
        go_wp2
        go_ret
        exact ⟨rb HBF.1,zf HS.1.bel (zf (z0a _ _).drew hb)⟩
      ·have HFR:=zz hFr
       have HFO:=zz hFo
       have hel1:el.f1.length≤40:=hFr.2.2.2
       subst eT
       clear hFr hFo
       rcases hways with hz0|⟨p,hp,h0,hle⟩
       rotate_left
       ·have q1:decide ((0:Int)<(i:Int))=true:=z6 zq3
        have q2:decide (0<i)=true:=z6 zq3
        have hs1:IntKind.i64.wrap ((i:Int)-1)=((i-1:Nat):Int):=zq56
        have hs2:(0:Int)≤((i-1:Nat):Int):=zq3
        have hs3:((i-1:Nat):Int)<(x.f3.length:Int):=zq3
        obtain ⟨ad2,hA2,zp⟩:=prev_at KR.1 hp
        injection hA2 with hA2
        subst hA2
        clear hp
        replace zp:=ze zp HS.1.bel
        have q3:decide (el.f0≤p.f0)=false:=z7 hle
        refine zsa implMetaOk.ok7_1 (S:=fun w'=>w'.cell? ⟨gF,0,none⟩=some (.int .i64 el.f0)∧w'.cell? ⟨gF,1,none⟩=some (.slice A1 el.f1.length c11)∧w'.cell? ⟨w.heap.size,0,none⟩=some (.int .i64 x.f0)∧w'.cell? ⟨w.heap.size,1,none⟩=some (.int .i64 x.f1)∧w'.cell? ⟨w.heap.size,2,none⟩=some (.int .i64 x.f2)∧w'.cell? ⟨w.heap.size,3,none⟩=some (.slice (some ad) x.f3.length cF)∧w'.cell? (ad.add ((i-1)*2))=some (.int .i64 p.f0)) zq8 (fun _ _ _ _ h=>h) ⟨ze hf0 (z0a _ _).drew,ze hf1 (z0a _ _).drew,ze hp0 (z0a _ _).drew,ze hp1 (z0a _ _).drew,ze hp2 (z0a _ _).drew,ze hp3 (z0a _ _).drew,ze zp (z0a _ _).drew⟩ (fun hHeld=> ?_)
        iterate 2 (refine zQa (v:= ?_) (a':= ?_) rfl rfl (Or.inl ⟨zq19,zq44⟩) zq2 ?_)
        refine zX rfl rfl Try.func171 zq8 rfl #[.agg #[.int .i64 el.f0,.slice A1 el.f1.length c11],.agg #[.int .i64 x.f0,.int .i64 x.f1,.int .i64 x.f2,.slice (some ad) x.f3.length cF]] zq19 rfl zq20 ?_
        with_reducible refine (freeOk_c el x true _ (Kd.C_below KE1.1 (z0a _ _).drew) HFB.1).mono ?_
        rintro e w2 ⟨rfl,hb⟩
        refine ⟨_,rfl,⟨ze (ze hf0 (z0a _ _).drew) hb,ze (ze hf1 (z0a _ _).drew) hb,ze (ze hp0 (z0a _ _).drew) hb,ze (ze hp1 (z0a _ _).drew) hb,ze (ze hp2 (z0a _ _).drew) hb,ze (ze hp3 (z0a _ _).drew) hb,ze (ze zp (z0a _ _).drew) hb⟩,(fun hHeld=> ?_)⟩
        refine zR (a':= ?_) zq2 ?_
        iterate 6 (refine zY (v:= ?_) (a':= ?_) rfl rfl (Or.inl ⟨zq19,zq5⟩) zq2 ?_)
        (refine zQa (v:= ?_) (a':= ?_) rfl rfl (Or.inl ⟨zq19,zq44⟩) zq2 ?_)
        iterate 4 (refine zY (v:= ?_) (a':= ?_) rfl rfl (Or.inl ⟨zq19,zq5⟩) zq2 ?_)
        (refine zQa (v:= ?_) (a':= ?_) rfl rfl (Or.inl ⟨zq19,zq44⟩) zq2 ?_)
        (refine zY (v:= ?_) (a':= ?_) rfl rfl (Or.inl ⟨zq19,zq5⟩) zq2 ?_)
        (refine zQa (v:= ?_) (a':= ?_) rfl rfl (Or.inl ⟨zq19,zq44⟩) zq2 ?_)
        iterate 3 (refine zY (v:= ?_) (a':= ?_) rfl rfl (Or.inl ⟨zq19,zq5⟩) zq2 ?_)
        refine zKa ?_
        clear zp
        exact zq85
       ·have q1:decide ((0:Int)<(i:Int))=false:=z7 zq3
        have q2:decide (0<i)=false:=z7 zq3
        clear hz0
        refine zsa implMetaOk.ok7_0 (S:=fun w'=>w'.cell? ⟨gF,0,none⟩=some (.int .i64 el.f0)∧w'.cell? ⟨gF,1,none⟩=some (.slice A1 el.f1.length c11)∧w'.cell? ⟨w.heap.size,0,none⟩=some (.int .i64 x.f0)∧w'.cell? ⟨w.heap.size,1,none⟩=some (.int .i64 x.f1)∧w'.cell? ⟨w.heap.size,2,none⟩=some (.int .i64 x.f2)∧w'.cell? ⟨w.heap.size,3,none⟩=some (.slice (some ad) x.f3.length cF)) zq8 (fun _ _ _ _ h=>h) ⟨ze hf0 (z0a _ _).drew,ze hf1 (z0a _ _).drew,ze hp0 (z0a _ _).drew,ze hp1 (z0a _ _).drew,ze hp2 (z0a _ _).drew,ze hp3 (z0a _ _).drew⟩ (fun hHeld=> ?_)
        iterate 2 (refine zQa (v:= ?_) (a':= ?_) rfl rfl (Or.inl ⟨zq19,by rintro w' ⟨s0,s1,s2,s3,s4,s5⟩;go_simp;with_reducible rfl⟩) zq2 ?_)
        refine zX rfl rfl Try.func171 zq8 rfl #[.agg #[.int .i64 el.f0,.slice A1 el.f1.length c11],.agg #[.int .i64 x.f0,.int .i64 x.f1,.int .i64 x.f2,.slice (some ad) x.f3.length cF]] zq19 rfl zq20 ?_
        with_reducible refine (freeOk_c el x true _ (Kd.C_below KE1.1 (z0a _ _).drew) HFB.1).mono ?_
        rintro e w2 ⟨rfl,hb⟩
        refine ⟨_,rfl,⟨ze (ze hf0 (z0a _ _).drew) hb,ze (ze hf1 (z0a _ _).drew) hb,ze (ze hp0 (z0a _ _).drew) hb,ze (ze hp1 (z0a _ _).drew) hb,ze (ze hp2 (z0a _ _).drew) hb,ze (ze hp3 (z0a _ _).drew) hb⟩,(fun hHeld=> ?_)⟩
        refine zR (a':= ?_) zq2 ?_
        iterate 5 (refine zY (v:= ?_) (a':= ?_) rfl rfl (Or.inl ⟨zq19,zq5⟩) zq2 ?_)
        iterate 10 (refine zY (v:=undef) (a':= ?_) rfl rfl (Or.inr ⟨zq19,rfl⟩) ?_ ?_;rotate_left;(· show Act.put _ (some _) _=_;simp only [Act.put,List.setIfInBounds_toArray,List.set_cons_zero,List.set_cons_succ,zxa,i32_w];try rfl))
        iterate 2 (refine zY (v:= ?_) (a':= ?_) rfl rfl (Or.inl ⟨zq19,zq5⟩) zq2 ?_)
        refine zKa ?_
        exact zq85
    ·exact zq122
 ·have HBF:=zz (bfalse HB.1 (fun h=>hh h.1))
  rcases mh_ways x hh with e0|⟨e0,e2⟩|⟨⟨e0,e2,h2a,h2b⟩,⟨e1,e1',e1''⟩|⟨⟨e1,e1'⟩,bl⟩|⟨⟨e1,e1',e1''⟩,bl⟩⟩
  all_goals
   clear hh
   go_enter Try.func144,Try.ntmps144
   go_wp2_with (((with_reducible refine (inI _ _ _ _).mono ?_);rintro e w1 ⟨rfl,rfl⟩))
   go_ret
   exact ⟨rb HBF.1,hbl.out⟩
def spec_l02Four.f (a0:Int):Option (ByteArray):=some (strOfNums (([(a0/16777216)%256,(a0/65536)%256,(a0/256)%256,(a0)%256]:List Int)))
theorem spec_l02Four.calls (a0:Int) (r:ByteArray) (w:World) (h:spec_l02Four.f a0=some r):
  Calls Try.prog 147 #[.int .u32 a0] w fun e w'=>e= .returned (.string r)∧Below w.heap.size w w':=by
 have HB:=zz (z0a w.heap.size w)
 have H:(some (strOfNums (([(a0/16777216)%256,(a0/65536)%256,(a0/256)%256,(a0)%256]:List Int))))=some r:=h
 clear h
 obtain ⟨y0,i0⟩:∃y_:List Int,y_=(([(a0/16777216)%256,(a0/65536)%256,(a0/256)%256,(a0)%256]:List Int)):=⟨_,rfl⟩
 replace H:(some (strOfNums y0))=some r:=zq16
 have Y0:=zz i0
 clear i0
 obtain rfl:=z5a H
 go_enter Try.func147,Try.ntmps147
 go_wp2_with (first|((with_reducible refine zg (N:=14) rfl ?_);refine Kd.R_lit (Kd.int .u8) _ 5 ?hg (N:=14) ?hd (xs:=([(a0/16777216)%256,(a0/65536)%256,(a0/256)%256,(a0)%256]:List Int)) (inner:=[.int .u8 ((a0/16777216)%256),.int .u8 ((a0/65536)%256),.int .u8 ((a0/256)%256),.int .u8 ((a0)%256)]) (ok:=fun _=>True) (okp:=fun _=>True) ?hr ?hp (fun _ hk=>hk) trivial (z0a _ _) (z2a _) zq29 ?_;(case hd=>rfl);(case hg=>rfl);(case hr=>first|(go_simp;done)|(go_simp;rfl));(case hp=>exact (Reps.one (show Kd.M (Kd.int .u8) _ _ _ ((a0/16777216)%256) [.int .u8 ((a0/16777216)%256)] from rfl) (Reps.one (show Kd.M (Kd.int .u8) _ _ _ ((a0/65536)%256) [.int .u8 ((a0/65536)%256)] from rfl) (Reps.one (show Kd.M (Kd.int .u8) _ _ _ ((a0/256)%256) [.int .u8 ((a0/256)%256)] from rfl) (Reps.one (show Kd.M (Kd.int .u8) _ _ _ ((a0)%256) [.int .u8 ((a0)%256)] from rfl) (Reps.none _ _))))));intro v136 w2 ho3 hb hg_ hnew_;clear hg_ hnew_;(first|rw [←Y0.1] at ho3|(simp only [Int.reduceToNat] at ho3;rw [←Y0.1] at ho3));have O0:=zz (Kd.R_lower ho3 (zL zq0));replace HB:=zz (zf zq0 hb);clear hb ho3;have hcv4:=zib (P:=Try.prog) Try.underlying171 Try.underlying5 Try.underlying9 (Kd.own_of_R O0.1)))
 go_ret
 exact ⟨zq9,zq0⟩
mutual
def spec_SumMore.l0:Nat→Int→ByteArray→Int→Option (Int)
 |0,_,_,_=>none
 |k+1,x0,x1,x5=>if x5<(x1.size:Int) then (if 0≤x5 then (spec_SumMore.l1 k (Go.bits .xor .u32 x0 ((bt x1 x5)%4294967296)) x1 x5 0) else (none)) else (some x0)
def spec_SumMore.l1:Nat→Int→ByteArray→Int→Int→Option (Int)
 |0,_,_,_,_=>none
 |k+1,x0,x1,x5,x6=>if x6<8 then (if (Int.tmod x0 2)=1 then (spec_SumMore.l1 k (Go.bits .xor .u32 ((Int.tdiv x0 2)%4294967296) 3558460437) x1 x5 (wrap64 (x6+1))) else (spec_SumMore.l1 k ((Int.tdiv x0 2)%4294967296) x1 x5 (wrap64 (x6+1)))) else (spec_SumMore.l0 k x0 x1 (wrap64 (x5+1)))
end
def spec_SumMore.f (k:Nat) (a0:Int) (a1:ByteArray):Option (Int):=spec_SumMore.l0 k a0 a1 0
theorem spec_SumMore.mono_l:∀k,(∀y0 y1 y2,LeO (spec_SumMore.l0 k y0 y1 y2) (spec_SumMore.l0 (k+1) y0 y1 y2))∧(∀y0 y1 y2 y3,LeO (spec_SumMore.l1 k y0 y1 y2 y3) (spec_SumMore.l1 (k+1) y0 y1 y2 y3))
 |0=>⟨fun _ _ _ r h=>by simp [spec_SumMore.l0] at h,fun _ _ _ _ r h=>by simp [spec_SumMore.l1] at h⟩
 |k+1=>by
  obtain ⟨ih0,ih1⟩:=spec_SumMore.mono_l k
  refine ⟨?_,?_⟩
  ·intro y0 y1 y2
   unfold spec_SumMore.l0
   exact zq121
  ·intro y0 y1 y2 y3
   unfold spec_SumMore.l1
   exact zq121
theorem spec_SumMore.mono:∀a0 a1 k,LeO (spec_SumMore.f k a0 a1) (spec_SumMore.f (k+1) a0 a1):=by
 intro a0 a1 k
 obtain ⟨ih0,ih1⟩:=spec_SumMore.mono_l k
 unfold spec_SumMore.f
 repeat' first
   |(with_reducible exact ih0 _ _ _)
   |(with_reducible exact ih1 _ _ _ _)
   |(with_reducible exact LeO.refl _)
   |(with_reducible exact LeO.none _)
   |(with_reducible refine LeO.ite ?_ ?_)
   |(with_reducible refine LeO.bind ?_ (fun _=> ?_))
   |exact ih0 _ _ _
   |exact ih1 _ _ _ _
theorem spec_SumMore.calls (k:Nat) (a0:Int) (a1:ByteArray) (r:Int) (w:World) (h:spec_SumMore.f k a0 a1=some r):
  Calls Try.prog 173 #[.int .u32 a0,.string a1] w fun e w'=>e= .returned (.int .u32 r)∧Drawn0 w w':=by
 have H:(spec_SumMore.l0 k a0 a1 0)=some r:=h
 clear h
 have H':=zz H
 clear H
 go_enter Try.func173,Try.ntmps173
 go_wp2
 go_loopg [0,5] k (fun kq v0 v5 w'=>∃(x0:Int) (x1:Int),v0= .int .u32 x0∧v5= .int .i64 x1∧Z0 (spec_SumMore.l0 kq x0 a1 x1=some r)∧Z0 (kq≤k)∧Drawn0 w w')
 case atStart=>exact ⟨(a0),(0),zq10,zq10,H',⟨z2a _⟩,zq15⟩
 case round=>
  clear H'
  obtain ⟨x0,x1,rfl,rfl,HA,HK1,⟨m1,rfl⟩⟩:=hrel
  cases gk with
  |zero=>exact absurd HA.1 (by simp [spec_SumMore.l0])
  |succ k1=>
   have H:=HA.1
   clear HA
   simp only [spec_SumMore.l0] at H
   by_cases c3:x1<(a1.size:Int)
   ·rw [if_pos c3] at H
    have c3b0:=z6 c3
    clear c3
    by_cases c4:0≤x1
    ·rw [if_pos c4] at H
     have c4b0:=z6 c4
     clear c4
     have H':=zz H
     clear H
     have p5:0≤(x1:Int):=z8 zq11
     have q5:x1<(a1.size:Int):=z8 zq11
     have hx5:=bt_at a1 x1
     replace p5:=eq_true p5
     replace q5:=eq_true q5
     go_wp2
     go_loopg [0,6] k1 (fun kq v0 v6 w'=>∃(x2:Int) (x3:Int),v0= .int .u32 x2∧v6= .int .i64 x3∧Z0 (spec_SumMore.l1 kq x2 a1 x1 x3=some r)∧Z0 (kq≤k1)∧Drawn0 w w')
     case atStart=>exact ⟨(Go.bits .xor .u32 x0 ((bt a1 x1)%4294967296)),(0),zq10,zq10,H',⟨z2a _⟩,zq15⟩
     case round=>
      clear H'
      try clear c3
      try clear c3b0
      try clear c4
      try clear c4b0
      try clear p5
      try clear q5
      try clear hx5
      try clear p5
      try clear q5
      obtain ⟨x2,x3,rfl,rfl,HA,HK2,⟨m2,rfl⟩⟩:=hrel
      cases gk with
      |zero=>exact absurd HA.1 (by simp [spec_SumMore.l1])
      |succ k2=>
       have H:=HA.1
       clear HA
       simp only [spec_SumMore.l1] at H
       by_cases c6:x3<8
       ·rw [if_pos c6] at H
        have c6b0:=z6 c6
        clear c6
        by_cases c7:(Int.tmod x2 2)=1
        ·rw [if_pos c7] at H
         have c7b0:((Int.tmod x2 2)==1)=true:=beq_iff_eq.mpr c7
         have c7b1:((Int.tmod x2 2) !=1)=false:=bne_eq_false_iff_eq.mpr c7
         clear c7
         have H':=zz H
         clear H
         go_wp2
         go_roundg k2
         case measure=>have:=HK1.1;have:=HK2.1;omega
         case rel=>exact ⟨(Go.bits .xor .u32 ((Int.tdiv x2 2)%4294967296) 3558460437),(wrap64 (x3+1)),zq10,zq10,H',⟨by have:=HK1.1;have:=HK2.1;omega⟩,zq15⟩
        ·rw [if_neg c7] at H
         have c7b0:((Int.tmod x2 2)==1)=false:=beq_eq_false_iff_ne.mpr c7
         have c7b1:((Int.tmod x2 2) !=1)=true:=bne_iff_ne.mpr c7
         have H':=zz H
         clear H
         go_wp2
         go_roundg k2
         case measure=>have:=HK1.1;have:=HK2.1;omega
         case rel=>exact ⟨((Int.tdiv x2 2)%4294967296),(wrap64 (x3+1)),zq10,zq10,H',⟨by have:=HK1.1;have:=HK2.1;omega⟩,zq15⟩
       ·rw [if_neg c6] at H
        have c6b0:=z7 c6
        clear c6
        exact zq144
    ·exact zq110
   ·exact zq103
def spec_SumOf.f (k:Nat) (a0:ByteArray):Option (Int):=(spec_SumMore.f k 4294967295 a0).bind fun t138=>(some t138)
theorem spec_SumOf.mono:∀a0 k,LeO (spec_SumOf.f k a0) (spec_SumOf.f (k+1) a0):=by
 intro a0 k
 unfold spec_SumOf.f
 repeat' first
   |(with_reducible exact spec_SumMore.mono _ _ _)
   |(with_reducible exact LeO.refl _)
   |(with_reducible exact LeO.none _)
   |(with_reducible refine LeO.ite ?_ ?_)
   |(with_reducible refine LeO.bind ?_ (fun _=> ?_))
   |exact spec_SumMore.mono _ _ _
theorem spec_SumOf.calls (k:Nat) (a0:ByteArray) (r:Int) (w:World) (h:spec_SumOf.f k a0=some r):
  Calls Try.prog 148 #[.string a0] w fun e w'=>e= .returned (.int .u32 r)∧Drawn0 w w':=by
 have H:((spec_SumMore.f k 4294967295 a0).bind fun t0=>(some t0))=some r:=h
 clear h
 replace H:=z1a H
 obtain ⟨t0,A0,H⟩:=H
 replace H:(some t0)=some r:=H
 have A2:=zz A0
 clear A0
 obtain rfl:=z5a H
 go_enter Try.func148,Try.ntmps148
 go_wp2_with (first|((with_reducible refine zn (f:=173) rfl ?_);refine zQ (some 4) rfl rfl Try.func173 zq8 rfl #[.int .u32 4294967295,.string a0] rfl zq6 ?_;(with_reducible refine (spec_SumMore.calls k 4294967295 a0 t0 _ A2.1).mono ?_);rintro e w' ⟨rfl,⟨nd,rfl⟩⟩;refine ⟨_,rfl,?_⟩))
 go_ret
 exact ⟨zq10,zq15⟩
def spec_Sealed.f (k:Nat) (a0:ByteArray):Option (ByteArray×Bool):=if (a0.size:Int)>20000 then (some ((⟨#[]⟩:ByteArray),false)) else ((spec_SumOf.f k a0).bind fun t139=>((spec_l02Four.f t139).bind fun t140=>(if a0.size+t140.size≤9223372036854775807 then (some (a0++t140,true)) else (none))))
theorem spec_Sealed.mono:∀a0 k,LeO (spec_Sealed.f k a0) (spec_Sealed.f (k+1) a0):=by
 intro a0 k
 unfold spec_Sealed.f
 repeat' first
   |(with_reducible exact spec_SumOf.mono _ _)
   |(with_reducible exact LeO.refl _)
   |(with_reducible exact LeO.none _)
   |(with_reducible refine LeO.ite ?_ ?_)
   |(with_reducible refine LeO.bind ?_ (fun _=> ?_))
   |exact spec_SumOf.mono _ _
theorem spec_Sealed.calls (k:Nat) (a0:ByteArray) (r1:ByteArray) (r2:Bool) (w:World) (h:spec_Sealed.f k a0=some (r1,r2)):
  Calls Try.prog 106 #[.string a0] w fun e w'=>e= .returned (.tuple #[.string r1,.bool r2])∧Below w.heap.size w w':=by
 have HB:=zz (z0a w.heap.size w)
 have H:(if (a0.size:Int)>20000 then (some ((⟨#[]⟩:ByteArray),false)) else ((spec_SumOf.f k a0).bind fun t0=>((spec_l02Four.f t0).bind fun t1=>(if a0.size+t1.size≤9223372036854775807 then (some (a0++t1,true)) else (none)))))=some (r1,r2):=h
 clear h
 by_cases c2:(a0.size:Int)>20000
 ·rw [if_pos c2] at H
  have c2b0:decide (20000<(a0.size:Int))=true:=z6 c2
  have c2b1:decide (20000<a0.size)=true:=z6 zq3
  clear c2
  simp only [Option.some.injEq,Prod.mk.injEq] at H
  obtain ⟨rfl,rfl⟩:=H
  go_enter Try.func106,Try.ntmps106
  go_wp2
  go_ret2
  exact ⟨zq9,zq0⟩
 ·rw [if_neg c2] at H
  have c2b0:decide (20000<(a0.size:Int))=false:=z7 c2
  have c2b1:decide (20000<a0.size)=false:=z7 zq3
  clear c2
  replace H:=z1a H
  obtain ⟨t0,A0,H⟩:=H
  replace H:((spec_l02Four.f t0).bind fun t1=>(if a0.size+t1.size≤9223372036854775807 then (some (a0++t1,true)) else (none)))=some (r1,r2):=H
  have A3:=zz A0
  clear A0
  replace H:=z1a H
  obtain ⟨t1,A1,H⟩:=H
  replace H:(if a0.size+t1.size≤9223372036854775807 then (some (a0++t1,true)) else (none))=some (r1,r2):=H
  have A4:=zz A1
  clear A1
  by_cases c5:a0.size+t1.size≤9223372036854775807
  ·rw [if_pos c5] at H
   have c5b0:=eq_true c5
   have c5b1:=z6 c5
   try have c5b2:(9223372036854775807<a0.size+t1.size)=False:=eq_false (Nat.not_lt.2 c5)
   simp only [Option.some.injEq,Prod.mk.injEq] at H
   obtain ⟨rfl,rfl⟩:=H
   go_enter Try.func106,Try.ntmps106
   go_wp2_with (first|((with_reducible refine zn (f:=148) rfl ?_);refine zQ (some 9) rfl rfl Try.func148 zq8 rfl #[.string a0] rfl zq6 ?_;(with_reducible refine (spec_SumOf.calls k a0 t0 _ A3.1).mono ?_);rintro e w' ⟨rfl,⟨nd,rfl⟩⟩;refine ⟨_,rfl,?_⟩)|((with_reducible refine zn (f:=147) rfl ?_);refine zQ (some 10) rfl rfl Try.func147 zq8 rfl #[.int .u32 t0] rfl zq6 ?_;(with_reducible refine (spec_l02Four.calls t0 t1 _ A4.1).mono ?_);rintro e w6 ⟨rfl,hb⟩;refine ⟨_,rfl,?_⟩;replace HB:=zz (zf zq0 hb);(try clear hb);(try clear hb2);(try clear hk);(try clear hi)))
   go_ret2
   exact ⟨zq9,zq0⟩
  ·exact zq105
def spec_l01Var.l0:Nat→Int→List Int→Option (ByteArray)
 |0,_,_=>none
 |k+1,x0,x3=>if x0>127 then (if x3.length<140737488355328 then (spec_l01Var.l0 k (wrap64 (Int.tdiv x0 128)) (x3++[(wrap64 ((Int.tmod x0 128)+128))%256])) else (none)) else (if x3.length<140737488355328 then (some (strOfNums (x3++[(x0)%256]))) else (none))
def spec_l01Var.f (k:Nat) (a0:Int):Option (ByteArray):=spec_l01Var.l0 k a0 (([]:List Int))
theorem spec_l01Var.mono_l:∀k,(∀y0 y1,LeO (spec_l01Var.l0 k y0 y1) (spec_l01Var.l0 (k+1) y0 y1))
 |0=>fun _ _ r h=>by simp [spec_l01Var.l0] at h
 |k+1=>by
  have ih0:=spec_l01Var.mono_l k
  ·intro y0 y1
   unfold spec_l01Var.l0
   exact zq109
theorem spec_l01Var.mono:∀a0 k,LeO (spec_l01Var.f k a0) (spec_l01Var.f (k+1) a0):=by
 intro a0 k
 have ih0:=spec_l01Var.mono_l k
 unfold spec_l01Var.f
 exact zq107
theorem spec_l01Var.calls (k:Nat) (a0:Int) (r:ByteArray) (w:World) (h:spec_l01Var.f k a0=some r):
  Calls Try.prog 139 #[.int .i64 a0] w fun e w'=>e= .returned (.string r)∧Below w.heap.size w w':=by
 have HB:=zz (z0a w.heap.size w)
 have H:(spec_l01Var.l0 k a0 (([]:List Int)))=some r:=h
 clear h
 obtain ⟨y0,i0⟩:∃y_:List Int,y_=(([]:List Int)):=⟨_,rfl⟩
 replace H:(spec_l01Var.l0 k a0 y0)=some r:=zq16
 have Y0:=zz i0
 clear i0
 have H':=zz H
 clear H
 go_enter Try.func139,Try.ntmps139
 go_wp2_with (first|((with_reducible refine zg (N:=4) rfl ?_);refine Kd.R_lit (Kd.int .u8) _ 5 ?hg (N:=4) ?hd (xs:=([]:List Int)) (inner:=[]) (ok:=fun _=>True) (okp:=fun _=>True) ?hr ?hp (fun _ hk=>hk) trivial (z0a _ _) (z2a _) zq29 ?_;(case hd=>rfl);(case hg=>rfl);(case hr=>first|(go_simp;done)|(go_simp;rfl));(case hp=>exact (Reps.none _ _));intro v171 w2 ho3 hb hg_ hnew_;clear hg_ hnew_;(first|rw [←Y0.1] at ho3|(simp only [Int.reduceToNat] at ho3;rw [←Y0.1] at ho3));have O0:=zz (Kd.R_lower ho3 (zL zq0));replace HB:=zz (zf zq0 hb);clear hb ho3))
 go_loopg [0,3] k (fun kq v0 v3 w'=>∃(x0:Int) (x1:List Int),v0= .int .i64 x0∧Z0 (spec_l01Var.l0 kq x0 x1=some r)∧Z0 (kq≤k)∧Z0 (Kd.R (Kd.int .u8) 5 w' w.heap.size (fun _=>True) v3 x1)∧Z0 (Below w.heap.size w w'))
 case atStart=>exact ⟨(a0),(y0),zq10,H',⟨z2a _⟩,⟨by (with_reducible repeat (first|apply Kd.R_alloc|apply Kd.R_drewN|apply Kd.R_drew));exact O0.1⟩,⟨zq0⟩⟩
 case round=>
  clear H'
  obtain ⟨x0,x1,rfl,HA,HK1,O1,HB⟩:=hrel
  cases gk with
  |zero=>exact absurd HA.1 (by simp [spec_l01Var.l0])
  |succ k1=>
   have H:=HA.1
   clear HA
   simp only [spec_l01Var.l0] at H
   by_cases c4:x0>127
   ·rw [if_pos c4] at H
    have c4b0:decide (127<x0)=true:=z6 c4
    clear c4
    by_cases c5:x1.length<140737488355328
    ·rw [if_pos c5] at H
     have LMc5:=zz c5
     clear c5
     obtain ⟨y1,i1⟩:∃y_:List Int,y_=(x1++[(wrap64 ((Int.tmod x0 128)+128))%256]):=⟨_,rfl⟩
     replace H:(spec_l01Var.l0 k1 (wrap64 (Int.tdiv x0 128)) y1)=some r:=zq27
     have Y1:=zz i1
     clear i1
     have H':=zz H
     clear H
     go_wp2_with (first|((with_reducible refine zfa (b:= .append) (xs:= #[.tmp 7,.tmp 12]) rfl ?_);at_builtin;refine Kd.R_append (Kd.int .u8) (w0:=w) w.heap.size rfl (.tmp 7) (.tmp 12) 171 5 (.int .u8 0) 1 rfl Try.underlying171 info5 rfl zq32 zq3 u3 x1 ((wrap64 ((Int.tmod x0 128)+128))%256) [.int .u8 ((wrap64 ((Int.tmod x0 128)+128))%256)] (fun _=>True) (fun _=>False) rfl rfl ?aP (fun _ hk=>hk.elim) ?aF ?aO ?aB ?aS ?aL ?_;(case aP=>exact rfl);(case aB=>exact zq0);(case aF=>exact (fun _ _=>trivial));(case aO=>exact (zq28 O1.1));(case aS=>exact (zL zq0));(case aL=>have:=LMc5.1;omega);intro v174 w6 ho hb hg hat;rw [←Y1.1] at ho;have O2:=zz ho;replace HB:=zz hb;clear O1;clear ho hb hg hat))
     go_roundg k1
     case measure=>have:=HK1.1;omega
     case rel=>exact ⟨(wrap64 (Int.tdiv x0 128)),(y1),zq10,H',⟨zq37 HK1.1⟩,⟨by (with_reducible repeat (first|apply Kd.R_alloc|apply Kd.R_drewN|apply Kd.R_drew));exact O2.1⟩,⟨zq0⟩⟩
    ·exact zq105
   ·rw [if_neg c4] at H
    have c4b0:decide (127<x0)=false:=z7 c4
    clear c4
    by_cases c7:x1.length<140737488355328
    ·rw [if_pos c7] at H
     have LMc7:=zz c7
     clear c7
     obtain ⟨y2,i2⟩:∃y_:List Int,y_=(x1++[(x0)%256]):=⟨_,rfl⟩
     replace H:(some (strOfNums y2))=some r:=zq46
     have Y2:=zz i2
     clear i2
     obtain rfl:=z5a H
     go_wp2_with (first|((with_reducible refine zfa (b:= .append) (xs:= #[.tmp 16,.tmp 19]) rfl ?_);at_builtin;refine Kd.R_append (Kd.int .u8) (w0:=w) w.heap.size rfl (.tmp 16) (.tmp 19) 171 5 (.int .u8 0) 1 rfl Try.underlying171 info5 rfl zq32 zq3 u3 x1 ((x0)%256) [.int .u8 ((x0)%256)] (fun _=>True) (fun _=>False) rfl rfl ?aP (fun _ hk=>hk.elim) ?aF ?aO ?aB ?aS ?aL ?_;(case aP=>exact rfl);(case aB=>exact zq0);(case aF=>exact (fun _ _=>trivial));(case aO=>exact (zq28 O1.1));(case aS=>exact (zL zq0));(case aL=>have:=LMc7.1;omega);intro v177 w8 ho hb hg hat;rw [←Y2.1] at ho;have O3:=zz ho;replace HB:=zz hb;clear O1;clear ho hb hg hat;have hcv9:=zib (P:=Try.prog) Try.underlying171 Try.underlying5 Try.underlying9 (Kd.own_of_R O3.1)))
     go_ret
     exact ⟨zq9,zq0⟩
    ·exact zq141
mutual
def impl_SumMore.l0:Nat→Int→ByteArray→Int→Int→Option (Int)
 |0,_,_,_,_=>none
 |k+1,x0,x1,x8,x9=>if x9<x8 then (if 0≤x9 then (if x9<(x1.size:Int) then (impl_SumMore.l1 k (Go.bits .xor .u32 x0 ((bt x1 x9)%4294967296)) x1 x8 x9 0) else (none)) else (none)) else (some x0)
def impl_SumMore.l1:Nat→Int→ByteArray→Int→Int→Int→Option (Int)
 |0,_,_,_,_,_=>none
 |k+1,x0,x1,x8,x9,x18=>if x18<8 then (if (Go.bits .and .u32 x0 1)=1 then (impl_SumMore.l1 k (Go.bits .xor .u32 (x0/2) 3558460437) x1 x8 x9 (wrap64 (x18+1))) else (impl_SumMore.l1 k (x0/2) x1 x8 x9 (wrap64 (x18+1)))) else (impl_SumMore.l0 k x0 x1 x8 (wrap64 (x9+1)))
end
def impl_SumMore.f (k:Nat) (a0:Int) (a1:ByteArray):Option (Int):=impl_SumMore.l0 k a0 a1 (a1.size:Int) 0
theorem impl_SumMore.mono_l:∀k,(∀y0 y1 y2 y3,LeO (impl_SumMore.l0 k y0 y1 y2 y3) (impl_SumMore.l0 (k+1) y0 y1 y2 y3))∧(∀y0 y1 y2 y3 y4,LeO (impl_SumMore.l1 k y0 y1 y2 y3 y4) (impl_SumMore.l1 (k+1) y0 y1 y2 y3 y4))
 |0=>⟨fun _ _ _ _ r h=>by simp [impl_SumMore.l0] at h,fun _ _ _ _ _ r h=>by simp [impl_SumMore.l1] at h⟩
 |k+1=>by
  obtain ⟨ih0,ih1⟩:=impl_SumMore.mono_l k
  refine ⟨?_,?_⟩
  ·intro y0 y1 y2 y3
   unfold impl_SumMore.l0
   exact zq95
  ·intro y0 y1 y2 y3 y4
   unfold impl_SumMore.l1
   exact zq95
theorem impl_SumMore.mono:∀a0 a1 k,LeO (impl_SumMore.f k a0 a1) (impl_SumMore.f (k+1) a0 a1):=by
 intro a0 a1 k
 obtain ⟨ih0,ih1⟩:=impl_SumMore.mono_l k
 unfold impl_SumMore.f
 exact zq117
theorem impl_SumMore.calls (k:Nat) (a0:Int) (a1:ByteArray) (r:Int) (w:World) (h:impl_SumMore.f k a0 a1=some r):
  Calls Try.prog 183 #[.int .u32 a0,.string a1] w fun e w'=>e= .returned (.int .u32 r)∧Drawn0 w w':=by
 have H:(impl_SumMore.l0 k a0 a1 (a1.size:Int) 0)=some r:=h
 clear h
 have H':=zz H
 clear H
 go_enter Try.func183,Try.ntmps183
 go_wp2
 go_loopg [0,9] k (fun kq v0 v9 w'=>∃(x0:Int) (x1:Int),v0= .int .u32 x0∧v9= .int .i64 x1∧Z0 (impl_SumMore.l0 kq x0 a1 (a1.size:Int) x1=some r)∧Z0 (kq≤k)∧Drawn0 w w')
 case atStart=>exact ⟨(a0),(0),zq10,zq10,H',⟨z2a _⟩,zq15⟩
 case round=>
  clear H'
  obtain ⟨x0,x1,rfl,rfl,HA,HK1,⟨m1,rfl⟩⟩:=hrel
  cases gk with
  |zero=>exact absurd HA.1 (by simp [impl_SumMore.l0])
  |succ k1=>
   have H:=HA.1
   clear HA
   simp only [impl_SumMore.l0] at H
   by_cases c3:x1<(a1.size:Int)
   ·rw [if_pos c3] at H
    have c3b0:=z6 c3
    clear c3
    by_cases c4:0≤x1
    ·rw [if_pos c4] at H
     have c4b0:=z6 c4
     clear c4
     by_cases c5:x1<(a1.size:Int)
     ·rw [if_pos c5] at H
      have c5b0:=z6 c5
      clear c5
      have H':=zz H
      clear H
      have p6:0≤(x1:Int):=z8 zq11
      have q6:x1<(a1.size:Int):=z8 zq11
      have hx6:=bt_at a1 x1
      replace p6:=eq_true p6
      replace q6:=eq_true q6
      go_wp2
      go_loopg [0,18] k1 (fun kq v0 v1 w'=>∃(x2:Int) (x3:Int),v0= .int .u32 x2∧v1= .int .i64 x3∧Z0 (impl_SumMore.l1 kq x2 a1 (a1.size:Int) x1 x3=some r)∧Z0 (kq≤k1)∧Drawn0 w w')
      case atStart=>exact ⟨(Go.bits .xor .u32 x0 ((bt a1 x1)%4294967296)),(0),zq10,zq10,H',⟨z2a _⟩,zq15⟩
      case round=>
       clear H'
       try clear c3
       try clear c3b0
       try clear c4
       try clear c4b0
       try clear c5
       try clear c5b0
       try clear p6
       try clear q6
       try clear hx6
       try clear p6
       try clear q6
       obtain ⟨x2,x3,rfl,rfl,HA,HK2,⟨m2,rfl⟩⟩:=hrel
       cases gk with
       |zero=>exact absurd HA.1 (by simp [impl_SumMore.l1])
       |succ k2=>
        have H:=HA.1
        clear HA
        simp only [impl_SumMore.l1] at H
        by_cases c7:x3<8
        ·rw [if_pos c7] at H
         have c7b0:=z6 c7
         clear c7
         by_cases c8:(Go.bits .and .u32 x2 1)=1
         ·rw [if_pos c8] at H
          have c8b0:((Go.bits .and .u32 x2 1)==1)=true:=beq_iff_eq.mpr c8
          have c8b1:((Go.bits .and .u32 x2 1) !=1)=false:=bne_eq_false_iff_eq.mpr c8
          clear c8
          have H':=zz H
          clear H
          go_wp2
          go_roundg k2
          case measure=>have:=HK1.1;have:=HK2.1;omega
          case rel=>exact ⟨(Go.bits .xor .u32 (x2/2) 3558460437),(wrap64 (x3+1)),zq10,zq10,H',⟨by have:=HK1.1;have:=HK2.1;omega⟩,zq15⟩
         ·rw [if_neg c8] at H
          have c8b0:((Go.bits .and .u32 x2 1)==1)=false:=beq_eq_false_iff_ne.mpr c8
          have c8b1:((Go.bits .and .u32 x2 1) !=1)=true:=bne_iff_ne.mpr c8
          have H':=zz H
          clear H
          go_wp2
          go_roundg k2
          case measure=>have:=HK1.1;have:=HK2.1;omega
          case rel=>exact ⟨(x2/2),(wrap64 (x3+1)),zq10,zq10,H',⟨by have:=HK1.1;have:=HK2.1;omega⟩,zq15⟩
        ·rw [if_neg c7] at H
         have c7b0:=z7 c7
         clear c7
         exact zq144
     ·exact zq105
    ·exact zq110
   ·exact zq103
def impl_SumOf.f (k:Nat) (a0:ByteArray):Option (Int):=(impl_SumMore.f k 4294967295 a0).bind fun t459=>(some t459)
theorem impl_SumOf.mono:∀a0 k,LeO (impl_SumOf.f k a0) (impl_SumOf.f (k+1) a0):=by
 intro a0 k
 unfold impl_SumOf.f
 repeat' first
   |(with_reducible exact impl_SumMore.mono _ _ _)
   |(with_reducible exact LeO.refl _)
   |(with_reducible exact LeO.none _)
   |(with_reducible refine LeO.ite ?_ ?_)
   |(with_reducible refine LeO.bind ?_ (fun _=> ?_))
   |exact impl_SumMore.mono _ _ _
theorem impl_SumOf.calls (k:Nat) (a0:ByteArray) (r:Int) (w:World) (h:impl_SumOf.f k a0=some r):
  Calls Try.prog 172 #[.string a0] w fun e w'=>e= .returned (.int .u32 r)∧Drawn0 w w':=by
 have H:((impl_SumMore.f k 4294967295 a0).bind fun t0=>(some t0))=some r:=h
 clear h
 replace H:=z1a H
 obtain ⟨t0,A0,H⟩:=H
 replace H:(some t0)=some r:=H
 have A2:=zz A0
 clear A0
 obtain rfl:=z5a H
 go_enter Try.func172,Try.ntmps172
 go_wp2_with (first|((with_reducible refine zn (f:=183) rfl ?_);refine zQ (some 4) rfl rfl Try.func183 zq8 rfl #[.int .u32 4294967295,.string a0] rfl zq6 ?_;(with_reducible refine (impl_SumMore.calls k 4294967295 a0 t0 _ A2.1).mono ?_);rintro e w' ⟨rfl,⟨nd,rfl⟩⟩;refine ⟨_,rfl,?_⟩))
 go_ret
 exact ⟨zq10,zq15⟩
def impl_seal.f (k:Nat) (a0:ByteArray):Option (ByteArray):=(impl_SumOf.f k a0).bind fun t460=>(some (strOfNums (([(t460/16777216)%256,(t460/65536)%256,(t460/256)%256,(t460)%256]:List Int))))
theorem impl_seal.mono:∀a0 k,LeO (impl_seal.f k a0) (impl_seal.f (k+1) a0):=by
 intro a0 k
 unfold impl_seal.f
 repeat' first
   |(with_reducible exact impl_SumOf.mono _ _)
   |(with_reducible exact LeO.refl _)
   |(with_reducible exact LeO.none _)
   |(with_reducible refine LeO.ite ?_ ?_)
   |(with_reducible refine LeO.bind ?_ (fun _=> ?_))
   |exact impl_SumOf.mono _ _
theorem impl_seal.calls (k:Nat) (a0:ByteArray) (r:ByteArray) (w:World) (h:impl_seal.f k a0=some r):
  Calls Try.prog 145 #[.string a0] w fun e w'=>e= .returned (.string r)∧Below w.heap.size w w':=by
 have HB:=zz (z0a w.heap.size w)
 have H:((impl_SumOf.f k a0).bind fun t0=>(some (strOfNums (([(t0/16777216)%256,(t0/65536)%256,(t0/256)%256,(t0)%256]:List Int)))))=some r:=h
 clear h
 replace H:=z1a H
 obtain ⟨t0,A0,H⟩:=H
 replace H:(some (strOfNums (([(t0/16777216)%256,(t0/65536)%256,(t0/256)%256,(t0)%256]:List Int))))=some r:=H
 have A2:=zz A0
 clear A0
 obtain ⟨y0,i0⟩:∃y_:List Int,y_=(([(t0/16777216)%256,(t0/65536)%256,(t0/256)%256,(t0)%256]:List Int)):=⟨_,rfl⟩
 replace H:(some (strOfNums y0))=some r:=zq16
 have Y0:=zz i0
 clear i0
 obtain rfl:=z5a H
 go_enter Try.func145,Try.ntmps145
 go_wp2_with (first|((with_reducible refine zn (f:=172) rfl ?_);refine zQ (some 5) rfl rfl Try.func172 zq8 rfl #[.string a0] rfl zq6 ?_;(with_reducible refine (impl_SumOf.calls k a0 t0 _ A2.1).mono ?_);rintro e w' ⟨rfl,⟨nd,rfl⟩⟩;refine ⟨_,rfl,?_⟩)|((with_reducible refine zg (N:=17) rfl ?_);refine Kd.R_lit (Kd.int .u8) _ 5 ?hg (N:=17) ?hd (xs:=([(t0/16777216)%256,(t0/65536)%256,(t0/256)%256,(t0)%256]:List Int)) (inner:=[.int .u8 ((t0/16777216)%256),.int .u8 ((t0/65536)%256),.int .u8 ((t0/256)%256),.int .u8 ((t0)%256)]) (ok:=fun _=>True) (okp:=fun _=>True) ?hr ?hp (fun _ hk=>hk) trivial (z0a _ _) (z2a _) zq29 ?_;(case hd=>rfl);(case hg=>rfl);(case hr=>first|(go_simp;done)|(go_simp;rfl));(case hp=>exact (Reps.one (show Kd.M (Kd.int .u8) _ _ _ ((t0/16777216)%256) [.int .u8 ((t0/16777216)%256)] from rfl) (Reps.one (show Kd.M (Kd.int .u8) _ _ _ ((t0/65536)%256) [.int .u8 ((t0/65536)%256)] from rfl) (Reps.one (show Kd.M (Kd.int .u8) _ _ _ ((t0/256)%256) [.int .u8 ((t0/256)%256)] from rfl) (Reps.one (show Kd.M (Kd.int .u8) _ _ _ ((t0)%256) [.int .u8 ((t0)%256)] from rfl) (Reps.none _ _))))));intro v462 w3 ho4 hb hg_ hnew_;clear hg_ hnew_;(first|rw [←Y0.1] at ho4|(simp only [Int.reduceToNat] at ho4;rw [←Y0.1] at ho4));have O0:=zz (Kd.R_lower ho4 (zL zq0));replace HB:=zz (zf zq0 hb);clear hb ho4;have hcv5:=zib (P:=Try.prog) Try.underlying171 Try.underlying5 Try.underlying9 (Kd.own_of_R O0.1)))
 go_ret
 exact ⟨zq9,zq0⟩
def impl_varText.l0:Nat→Int→List Int→Option (ByteArray)
 |0,_,_=>none
 |k+1,x0,x3=>if x0>127 then (if x3.length<140737488355328 then (impl_varText.l0 k (x0/128) (x3++[(Go.bits .or .i64 (Go.bits .and .i64 x0 127) 128)%256])) else (none)) else (if x3.length<140737488355328 then (some (strOfNums (x3++[(x0)%256]))) else (none))
def impl_varText.f (k:Nat) (a0:Int):Option (ByteArray):=impl_varText.l0 k a0 (([]:List Int))
theorem impl_varText.mono_l:∀k,(∀y0 y1,LeO (impl_varText.l0 k y0 y1) (impl_varText.l0 (k+1) y0 y1))
 |0=>fun _ _ r h=>by simp [impl_varText.l0] at h
 |k+1=>by
  have ih0:=impl_varText.mono_l k
  ·intro y0 y1
   unfold impl_varText.l0
   exact zq109
theorem impl_varText.mono:∀a0 k,LeO (impl_varText.f k a0) (impl_varText.f (k+1) a0):=by
 intro a0 k
 have ih0:=impl_varText.mono_l k
 unfold impl_varText.f
 exact zq107
theorem impl_varText.calls (k:Nat) (a0:Int) (r:ByteArray) (w:World) (h:impl_varText.f k a0=some r):
  Calls Try.prog 110 #[.int .i64 a0] w fun e w'=>e= .returned (.string r)∧Below w.heap.size w w':=by
 have HB:=zz (z0a w.heap.size w)
 have H:(impl_varText.l0 k a0 (([]:List Int)))=some r:=h
 clear h
 obtain ⟨y0,i0⟩:∃y_:List Int,y_=(([]:List Int)):=⟨_,rfl⟩
 replace H:(impl_varText.l0 k a0 y0)=some r:=zq16
 have Y0:=zz i0
 clear i0
 have H':=zz H
 clear H
 go_enter Try.func110,Try.ntmps110
 go_wp2_with (first|((with_reducible refine zg (N:=4) rfl ?_);refine Kd.R_lit (Kd.int .u8) _ 5 ?hg (N:=4) ?hd (xs:=([]:List Int)) (inner:=[]) (ok:=fun _=>True) (okp:=fun _=>True) ?hr ?hp (fun _ hk=>hk) trivial (z0a _ _) (z2a _) zq29 ?_;(case hd=>rfl);(case hg=>rfl);(case hr=>first|(go_simp;done)|(go_simp;rfl));(case hp=>exact (Reps.none _ _));intro v427 w2 ho3 hb hg_ hnew_;clear hg_ hnew_;(first|rw [←Y0.1] at ho3|(simp only [Int.reduceToNat] at ho3;rw [←Y0.1] at ho3));have O0:=zz (Kd.R_lower ho3 (zL zq0));replace HB:=zz (zf zq0 hb);clear hb ho3))
 go_loopg [0,3] k (fun kq v0 v3 w'=>∃(x0:Int) (x1:List Int),v0= .int .i64 x0∧Z0 (impl_varText.l0 kq x0 x1=some r)∧Z0 (kq≤k)∧Z0 (Kd.R (Kd.int .u8) 5 w' w.heap.size (fun _=>True) v3 x1)∧Z0 (Below w.heap.size w w'))
 case atStart=>exact ⟨(a0),(y0),zq10,H',⟨z2a _⟩,⟨by (with_reducible repeat (first|apply Kd.R_alloc|apply Kd.R_drewN|apply Kd.R_drew));exact O0.1⟩,⟨zq0⟩⟩
 case round=>
  clear H'
  obtain ⟨x0,x1,rfl,HA,HK1,O1,HB⟩:=hrel
  cases gk with
  |zero=>exact absurd HA.1 (by simp [impl_varText.l0])
  |succ k1=>
   have H:=HA.1
   clear HA
   simp only [impl_varText.l0] at H
   by_cases c4:x0>127
   ·rw [if_pos c4] at H
    have c4b0:decide (127<x0)=true:=z6 c4
    clear c4
    by_cases c5:x1.length<140737488355328
    ·rw [if_pos c5] at H
     have LMc5:=zz c5
     clear c5
     obtain ⟨y1,i1⟩:∃y_:List Int,y_=(x1++[(Go.bits .or .i64 (Go.bits .and .i64 x0 127) 128)%256]):=⟨_,rfl⟩
     replace H:(impl_varText.l0 k1 (x0/128) y1)=some r:=zq27
     have Y1:=zz i1
     clear i1
     have H':=zz H
     clear H
     go_wp2_with (first|((with_reducible refine zfa (b:= .append) (xs:= #[.tmp 7,.tmp 12]) rfl ?_);at_builtin;refine Kd.R_append (Kd.int .u8) (w0:=w) w.heap.size rfl (.tmp 7) (.tmp 12) 171 5 (.int .u8 0) 1 rfl Try.underlying171 info5 rfl zq32 zq3 u3 x1 ((Go.bits .or .i64 (Go.bits .and .i64 x0 127) 128)%256) [.int .u8 ((Go.bits .or .i64 (Go.bits .and .i64 x0 127) 128)%256)] (fun _=>True) (fun _=>False) rfl rfl ?aP (fun _ hk=>hk.elim) ?aF ?aO ?aB ?aS ?aL ?_;(case aP=>exact rfl);(case aB=>exact zq0);(case aF=>exact (fun _ _=>trivial));(case aO=>exact (zq28 O1.1));(case aS=>exact (zL zq0));(case aL=>have:=LMc5.1;omega);intro v430 w6 ho hb hg hat;rw [←Y1.1] at ho;have O2:=zz ho;replace HB:=zz hb;clear O1;clear ho hb hg hat))
     go_roundg k1
     case measure=>have:=HK1.1;omega
     case rel=>exact ⟨(x0/128),(y1),zq10,H',⟨zq37 HK1.1⟩,⟨by (with_reducible repeat (first|apply Kd.R_alloc|apply Kd.R_drewN|apply Kd.R_drew));exact O2.1⟩,⟨zq0⟩⟩
    ·exact zq105
   ·rw [if_neg c4] at H
    have c4b0:decide (127<x0)=false:=z7 c4
    clear c4
    by_cases c7:x1.length<140737488355328
    ·rw [if_pos c7] at H
     have LMc7:=zz c7
     clear c7
     obtain ⟨y2,i2⟩:∃y_:List Int,y_=(x1++[(x0)%256]):=⟨_,rfl⟩
     replace H:(some (strOfNums y2))=some r:=zq46
     have Y2:=zz i2
     clear i2
     obtain rfl:=z5a H
     go_wp2_with (first|((with_reducible refine zfa (b:= .append) (xs:= #[.tmp 16,.tmp 19]) rfl ?_);at_builtin;refine Kd.R_append (Kd.int .u8) (w0:=w) w.heap.size rfl (.tmp 16) (.tmp 19) 171 5 (.int .u8 0) 1 rfl Try.underlying171 info5 rfl zq32 zq3 u3 x1 ((x0)%256) [.int .u8 ((x0)%256)] (fun _=>True) (fun _=>False) rfl rfl ?aP (fun _ hk=>hk.elim) ?aF ?aO ?aB ?aS ?aL ?_;(case aP=>exact rfl);(case aB=>exact zq0);(case aF=>exact (fun _ _=>trivial));(case aO=>exact (zq28 O1.1));(case aS=>exact (zL zq0));(case aL=>have:=LMc7.1;omega);intro v433 w8 ho hb hg hat;rw [←Y2.1] at ho;have O3:=zz ho;replace HB:=zz hb;clear O1;clear ho hb hg hat;have hcv9:=zib (P:=Try.prog) Try.underlying171 Try.underlying5 Try.underlying9 (Kd.own_of_R O3.1)))
     go_ret
     exact ⟨zq9,zq0⟩
    ·exact zq141
structure TxF (k:Nat) (vt:Int→ByteArray) (sl:ByteArray→ByteArray):Prop where
 vS:∀n:Int,0≤n→n≤100000→spec_l01Var.f k n=some (vt n)
 vI:∀n:Int,0≤n→n≤100000→impl_varText.f k n=some (vt n)
 vz:∀n:Int,(vt n).size≤8
 sS:∀s:ByteArray,s.size≤20000→spec_Sealed.f k s=some (s++sl s,true)
 sI:∀s:ByteArray,s.size≤20000→impl_seal.f k s=some (sl s)
 sz:∀s,(sl s).size=4
section
variable (vt:Int→ByteArray) (sl:ByteArray→ByteArray)
def pacc (s:ByteArray) (ps:List Int):ByteArray:=ps.foldl (fun s p=>s++vt p) s
def facc (s:ByteArray) (fs:List S122):ByteArray:=fs.foldl (fun s f=>pacc vt (s++vt f.f0++vt (f.f1.length:Int)) f.f1) s
def mhead (x:S53):ByteArray:=vt x.f0++vt x.f1++vt x.f2++vt (x.f3.length:Int)
def mbody (x:S53):ByteArray:=facc vt (mhead vt x) x.f3
def MTxt (x:S53) (t:ByteArray) (ok:Bool):Prop:=(¬MOk x∧t=⟨#[]⟩∧ok=false)∨(MOk x∧240<(mbody vt x++sl (mbody vt x)).size∧t=⟨#[]⟩∧ok=false)∨(MOk x∧(mbody vt x++sl (mbody vt x)).size≤240∧t=mbody vt x++sl (mbody vt x)∧ok=true)
end
section
variable {vt:Int→ByteArray} {sl:ByteArray→ByteArray} {k:Nat}
theorem pacc_succ {ps:List Int} {i:Nat} {p:Int} {s:ByteArray} (h:ps[i]?=some p):pacc vt s (ps.take (i+1))=pacc vt s (ps.take i)++vt p:=by
 obtain ⟨hi,rfl⟩:=List.getElem?_eq_some_iff.1 h
 unfold pacc
 rw [List.take_succ_eq_append_getElem hi,List.foldl_append]
 rfl
theorem facc_succ {fs:List S122} {i:Nat} {f:S122} {s:ByteArray} (h:fs[i]?=some f):facc vt s (fs.take (i+1))=pacc vt (facc vt s (fs.take i)++vt f.f0++vt (f.f1.length:Int)) f.f1:=by
 obtain ⟨hi,rfl⟩:=List.getElem?_eq_some_iff.1 h
 unfold facc
 rw [List.take_succ_eq_append_getElem hi,List.foldl_append]
 rfl
theorem pacc_size (V:∀n:Int,(vt n).size≤8) (s:ByteArray):∀ps:List Int,(pacc vt s ps).size≤s.size+8*ps.length:=by
 intro ps
 induction ps generalizing s with
 |nil=>simp [pacc]
 |cons p ps ih=>
  have:=ih (s++vt p)
  have:=V p
  rw [ByteArray.size_append] at*
  simp only [pacc,List.foldl_cons,List.length_cons] at*
  omega
theorem facc_size (V:∀n:Int,(vt n).size≤8) (s:ByteArray):∀fs:List S122,(∀f∈fs,f.f1.length≤40)→(facc vt s fs).size≤s.size+336*fs.length:=by
 intro fs
 induction fs generalizing s with
 |nil=>simp [facc]
 |cons f fs ih=>
  intro h
  have h1:=ih (pacc vt (s++vt f.f0++vt (f.f1.length:Int)) f.f1) (fun g hg=>h g (List.mem_cons_of_mem _ hg))
  have h2:=pacc_size V (s++vt f.f0++vt (f.f1.length:Int)) f.f1
  have:=V f.f0
  have:=V (f.f1.length:Int)
  have:=h f List.mem_cons_self
  rw [ByteArray.size_append,ByteArray.size_append] at h2
  show (facc vt _ fs).size≤_
  simp only [List.length_cons]
  omega
theorem mhead_size (V:∀n:Int,(vt n).size≤8) (x:S53):(mhead vt x).size≤32:=by
 unfold mhead
 have:=V x.f0
 have:=V x.f1
 have:=V x.f2
 have:=V (x.f3.length:Int)
 simp only [ByteArray.size_append]
 omega
theorem MOk.f0 {x:S53} (h:MOk x):0≤x.f0∧x.f0≤100000:=h.1.1
theorem MOk.f1 {x:S53} (h:MOk x):0≤x.f1∧x.f1≤100000:=by
 obtain ⟨⟨-,h2,h1,-⟩,-⟩:=h
 rcases h1 with h1|h1<;>omega
theorem MOk.f2 {x:S53} (h:MOk x):0≤x.f2∧x.f2≤100000:=by
 have:=h.1.2.1
 omega
theorem MOk.len {x:S53} (h:MOk x):x.f3.length≤20:=h.1.2.2.2
theorem MOk.fr {x:S53} (h:MOk x) {i:Nat} {f:S122} (hi:x.f3[i]?=some f):(0≤f.f0∧f.f0≤100000)∧f.f1.length≤40∧∀(j:Nat) (p:Int),f.f1[j]?=some p→0≤p∧p≤100000:=by
 obtain ⟨h1,h2⟩:=h.2 i f hi
 have:=h.f0
 have:=h1.1
 have:=h.1.2.1
 refine ⟨zq3,h1.2.2.2,fun j p hp=> ?_⟩
 have:=(h2 j p hp).1
 omega
theorem MOk.le40 {x:S53} (h:MOk x):∀f∈x.f3,f.f1.length≤40:=fun f hf=>by
 obtain ⟨i,hi,rfl⟩:=List.getElem_of_mem hf
 exact (h.fr (List.getElem?_eq_getElem hi)).2.1
theorem varS (T:TxF k vt sl) (n:Int) (h0:0≤n) (h1:n≤100000) (w:World):Calls Try.prog 139 #[.int .i64 n] w fun e w'=>e= .returned (.string (vt n))∧Below w.heap.size w w':=spec_l01Var.calls k n _ w (T.vS n h0 h1)
theorem varI (T:TxF k vt sl) (n:Int) (h0:0≤n) (h1:n≤100000) (w:World):Calls Try.prog 110 #[.int .i64 n] w fun e w'=>e= .returned (.string (vt n))∧Below w.heap.size w w':=impl_varText.calls k n _ w (T.vI n h0 h1)
end
theorem rt2 {a b:ByteArray} {o:Bool} (h:a=b):Ending.returned (.tuple #[.string a,.bool o])= .returned (.tuple #[.string b,.bool o]):=by rw [h]
structure BoxAt (w w':World) (cs:List Value):Prop where
 box:w'.heap[w.heap.size]?=some (.cells cs.toArray 53 (0,0))
 bel:Below w.heap.size w w'
theorem BoxAt.step {w w' w2:World} {cs:List Value} (h:BoxAt w w' cs) (hb:Below w'.heap.size w' w2):BoxAt w w2 cs:=⟨zj h.box hb,zf h.bel hb⟩
end Go.Proofs.Ytonhdiemjgdcnaa.PFnExactGivePage
namespace Go.Proofs.Ytonhdiemjgdcnaa.PFnExactGivePage
open Go.RowKit Go.Proofs.YtonhdiemjgdcnaaW.PrintWords Go.Proofs.YtonhdiemjgdcnaaW.PrintLast Go.Proofs.YtonhdiemjgdcnaaW.PrintMore
def enc (n:Nat):List Int:=if h:n<128 then [(n:Int)] else ((n%128+128:Nat):Int)::enc (n/128)
termination_by n
decreasing_by omega
theorem zEa {n:Nat} (h:n<128):enc n=[(n:Int)]:=by rw [enc,dif_pos h]
theorem enc_great {n:Nat} (h:¬n<128):enc n=((n%128+128:Nat):Int)::enc (n/128):=by rw [enc,dif_neg h]
theorem enc_len (i:Nat):∀n,n<128^(i+1)→(enc n).length≤i+1:=by
 induction i with
 |zero=>
  intro n hn
  rw [zEa (by simpa using hn)]
  simp
 |succ i ih=>
  intro n hn
  by_cases h:n<128
  ·rw [zEa h]
   simp
  ·rw [enc_great h,List.length_cons]
   have:=ih (n/128) (by
    rw [Nat.div_lt_iff_lt_mul zq32]
    rwa [←Nat.pow_succ])
   omega
theorem w64 {n:Int} (h0:0≤n) (h1:n<9223372036854775808):wrap64 n=n:=zq79
theorem l01Var_ev:∀(i n:Nat) (acc:List Int),n<128^(i+1)→acc.length+i<140737488355328→n<4611686018427387904→spec_l01Var.l0 (i+1) (n:Int) acc=some (strOfNums (acc++enc n)):=by
 intro i
 induction i with
 |zero=>
  intro n acc hn hl hb
  have h:n<128:=by simpa using hn
  simp only [spec_l01Var.l0]
  rw [if_neg zq3,if_pos zq3,zEa h,show (n:Int)%256=n by omega]
 |succ i ih=>
  intro n acc hn hl hb
  by_cases h:n<128
  ·simp only [spec_l01Var.l0]
   rw [if_neg zq3,if_pos zq3,zEa h,show (n:Int)%256=n by omega]
  ·have hd:n/128<128^(i+1):=by
    rw [Nat.div_lt_iff_lt_mul zq32]
    rwa [←Nat.pow_succ]
   have:=ih (n/128) (acc++[((n%128+128:Nat):Int)]) hd zq80 zq3
   rw [spec_l01Var.l0,if_pos zq3,if_pos zq3,enc_great h]
   rw [show wrap64 (Int.tdiv (n:Int) 128)=((n/128:Nat):Int) by
    rw [Int.tdiv_eq_ediv_of_nonneg zq3];unfold wrap64;omega]
   rw [show (wrap64 (Int.tmod (n:Int) 128+128))%256=((n%128+128:Nat):Int) by
    rw [Int.tmod_eq_emod_of_nonneg zq3];unfold wrap64;omega]
   rw [this]
   simp
namespace Crc
def st (s:Nat):Nat:=if s%2=1 then (s/2)^^^3558460437 else s/2
def st8 (s:Nat):Nat:=st (st (st (st (st (st (st (st s)))))))
def upd (s b:Nat):Nat:=st8 (s^^^b)
def sum (s:Nat) (l:List Nat):Nat:=l.foldl upd s
theorem st_lt {s:Nat} (h:s<2^32):st s<2^32:=by
 unfold st
 split
 ·exact Nat.xor_lt_two_pow zq3 zq32
 ·omega
theorem st8_lt {s:Nat} (h:s<2^32):st8 s<2^32:=by
 unfold st8
 exact st_lt (st_lt (st_lt (st_lt (st_lt (st_lt (st_lt (st_lt h)))))))
theorem upd_lt {s b:Nat} (hs:s<2^32) (hb:b<256):upd s b<2^32:=st8_lt (Nat.xor_lt_two_pow hs zq3)
end Crc
def zDa (s:ByteArray):List Nat:=(List.range s.size).map fun (j:Nat)=>(bt s (j:Int)).toNat
theorem natBytes_len (s:ByteArray):(zDa s).length=s.size:=by simp [zDa]
theorem natBytes_byte (s:ByteArray):∀b∈zDa s,b<256:=by
 intro b hb
 simp only [zDa,List.mem_map] at hb
 obtain ⟨j,_,rfl⟩:=hb
 have:=zcb s (j:Int)
 omega
theorem natBytes_drop (s:ByteArray) (i:Nat) (h:i<s.size):(zDa s).drop i=(bt s (i:Int)).toNat::(zDa s).drop (i+1):=by
 rw [List.drop_eq_getElem_cons (by rw [natBytes_len];exact h)]
 simp [zDa]
theorem zbb (k s:Nat) (hs:s<4294967296) (x:ByteArray) (n i:Int) (j:Nat) (hj:j<8):impl_SumMore.l1 (k+1) (s:Int) x n i (j:Int)=impl_SumMore.l1 k ((Crc.st s:Nat):Int) x n i ((j+1:Nat):Int):=by
 have e1:wrap64 ((j:Int)+1)=((j+1:Nat):Int):=zq70
 have e2:Go.bits .and .u32 (s:Int) 1=((s%2:Nat):Int):=by
  have:=u32_and_nat s 1 hs zq32
  rw [Nat.and_one_is_mod] at this
  exact this
 have e3:(s:Int)/2=((s/2:Nat):Int):=zq3
 have e4:Go.bits .xor .u32 ((s/2:Nat):Int) 3558460437=(((s/2)^^^3558460437:Nat):Int):=u32_xor_nat (s/2) 3558460437 zq3 zq32
 have c0:(j:Int)<8:=zq3
 rw [impl_SumMore.l1,if_pos c0,e1,e2,e3,e4]
 unfold Crc.st
 by_cases h:s%2=1
 ·rw [if_pos (by rw [h];rfl),if_pos h]
 ·rw [if_neg (by intro q;apply h;omega),if_neg h]
theorem zZa (k s:Nat) (hs:s<4294967296) (x:ByteArray) (i:Int) (j:Nat) (hj:j<8):spec_SumMore.l1 (k+1) (s:Int) x i (j:Int)=spec_SumMore.l1 k ((Crc.st s:Nat):Int) x i ((j+1:Nat):Int):=by
 have e1:wrap64 ((j:Int)+1)=((j+1:Nat):Int):=zq70
 have e2:Int.tmod (s:Int) 2=((s%2:Nat):Int):=by rw [Int.tmod_eq_emod_of_nonneg zq3];omega
 have e3:(Int.tdiv (s:Int) 2)%4294967296=((s/2:Nat):Int):=by rw [Int.tdiv_eq_ediv_of_nonneg zq3];omega
 have e4:Go.bits .xor .u32 ((s/2:Nat):Int) 3558460437=(((s/2)^^^3558460437:Nat):Int):=u32_xor_nat (s/2) 3558460437 zq3 zq32
 have c0:(j:Int)<8:=zq3
 rw [spec_SumMore.l1,if_pos c0,e1,e2,e3,e4]
 unfold Crc.st
 by_cases h:s%2=1
 ·rw [if_pos (by rw [h];rfl),if_pos h]
 ·rw [if_neg (by intro q;apply h;omega),if_neg h]
theorem st_lt' {s:Nat} (h:s<4294967296):Crc.st s<4294967296:=Crc.st_lt h
theorem impl_byte (k s:Nat) (hs:s<4294967296) (x:ByteArray) (n:Int) (i:Nat) (hi:(i:Int)<n) (hx:i<x.size) (hsz:x.size≤140737488351232):impl_SumMore.l0 (k+10) (s:Int) x n (i:Int)=impl_SumMore.l0 k ((Crc.upd s (bt x (i:Int)).toNat:Nat):Int) x n ((i+1:Nat):Int):=by
 obtain ⟨b,hb⟩:∃b:Nat,bt x (i:Int)=(b:Int):=⟨(bt x (i:Int)).toNat,(Int.toNat_of_nonneg (zcb x (i:Int)).1).symm⟩
 have hb256:b<256:=by have:=(zcb x (i:Int)).2;rw [hb] at this;omega
 have e0:(bt x (i:Int))%4294967296=(b:Int):=by rw [hb];omega
 have e1:Go.bits .xor .u32 (s:Int) (b:Int)=((s^^^b:Nat):Int):=u32_xor_nat s b hs zq3
 have e2:wrap64 ((i:Int)+1)=((i+1:Nat):Int):=zq70
 have c1:(0:Int)≤(i:Int):=zq3
 have c2:(i:Int)<(x.size:Int):=zq3
 have h0:s^^^b<4294967296:=Nat.xor_lt_two_pow (n:=32) hs zq3
 rw [impl_SumMore.l0,if_pos hi,if_pos c1,if_pos c2,e0,e1,hb,Int.toNat_natCast]
 have z:(0:Int)=((0:Nat):Int):=rfl
 rw [z,zbb _ _ h0 x n i 0 zq32,zbb _ _ (st_lt' h0) x n i 1 zq32,zbb _ _ (st_lt' (st_lt' h0)) x n i 2 zq32,zbb _ _ (st_lt' (st_lt' (st_lt' h0))) x n i 3 zq32,
  zbb _ _ (st_lt' (st_lt' (st_lt' (st_lt' h0)))) x n i 4 zq32,zbb _ _ (st_lt' (st_lt' (st_lt' (st_lt' (st_lt' h0))))) x n i 5 zq32,zbb _ _ (st_lt' (st_lt' (st_lt' (st_lt' (st_lt' (st_lt' h0)))))) x n i 6 zq32,zbb _ _ (st_lt' (st_lt' (st_lt' (st_lt' (st_lt' (st_lt' (st_lt' h0))))))) x n i 7 zq32]
 have c3:¬((7+1:Nat):Int)<8:=zq32
 rw [impl_SumMore.l1,if_neg c3,e2]
 rfl
theorem spec_byte (k s:Nat) (hs:s<4294967296) (x:ByteArray) (i:Nat) (hx:i<x.size) (hsz:x.size≤140737488351232):spec_SumMore.l0 (k+10) (s:Int) x (i:Int)=spec_SumMore.l0 k ((Crc.upd s (bt x (i:Int)).toNat:Nat):Int) x ((i+1:Nat):Int):=by
 obtain ⟨b,hb⟩:∃b:Nat,bt x (i:Int)=(b:Int):=⟨(bt x (i:Int)).toNat,(Int.toNat_of_nonneg (zcb x (i:Int)).1).symm⟩
 have hb256:b<256:=by have:=(zcb x (i:Int)).2;rw [hb] at this;omega
 have e0:(bt x (i:Int))%4294967296=(b:Int):=by rw [hb];omega
 have e1:Go.bits .xor .u32 (s:Int) (b:Int)=((s^^^b:Nat):Int):=u32_xor_nat s b hs zq3
 have e2:wrap64 ((i:Int)+1)=((i+1:Nat):Int):=zq70
 have c1:(0:Int)≤(i:Int):=zq3
 have c2:(i:Int)<(x.size:Int):=zq3
 have h0:s^^^b<4294967296:=Nat.xor_lt_two_pow (n:=32) hs zq3
 rw [spec_SumMore.l0,if_pos c2,if_pos c1,e0,e1,hb,Int.toNat_natCast]
 have z:(0:Int)=((0:Nat):Int):=rfl
 rw [z,zZa _ _ h0 x i 0 zq32,zZa _ _ (st_lt' h0) x i 1 zq32,zZa _ _ (st_lt' (st_lt' h0)) x i 2 zq32,zZa _ _ (st_lt' (st_lt' (st_lt' h0))) x i 3 zq32,
  zZa _ _ (st_lt' (st_lt' (st_lt' (st_lt' h0)))) x i 4 zq32,zZa _ _ (st_lt' (st_lt' (st_lt' (st_lt' (st_lt' h0))))) x i 5 zq32,zZa _ _ (st_lt' (st_lt' (st_lt' (st_lt' (st_lt' (st_lt' h0)))))) x i 6 zq32,zZa _ _ (st_lt' (st_lt' (st_lt' (st_lt' (st_lt' (st_lt' (st_lt' h0))))))) x i 7 zq32]
 have c3:¬((7+1:Nat):Int)<8:=zq32
 rw [spec_SumMore.l1,if_neg c3,e2]
 rfl
theorem sums (x:ByteArray) (hsz:x.size≤140737488351232):∀(d i s:Nat),i+d=x.size→s<4294967296→
  impl_SumMore.l0 (10*d+1) (s:Int) x (x.size:Int) (i:Int)=some ((Crc.sum s ((zDa x).drop i):Nat):Int)∧spec_SumMore.l0 (10*d+1) (s:Int) x (i:Int)=some ((Crc.sum s ((zDa x).drop i):Nat):Int):=by
 intro d
 induction d with
 |zero=>
  intro i s hi hs
  have hn:(zDa x).drop i=[]:=List.drop_eq_nil_of_le (by rw [natBytes_len];omega)
  have c:¬(i:Int)<(x.size:Int):=zq3
  rw [hn]
  exact ⟨by rw [impl_SumMore.l0,if_neg c];rfl,by rw [spec_SumMore.l0,if_neg c];rfl⟩
 |succ d ih=>
  intro i s hi hs
  have hlt:i<x.size:=zq3
  have hb:=natBytes_byte x (bt x (i:Int)).toNat (by
   have:=natBytes_drop x i hlt
   exact List.mem_of_mem_drop (i:=i) (by rw [this];simp))
  obtain ⟨h1,h2⟩:=ih (i+1) (Crc.upd s (bt x (i:Int)).toNat) zq3 (Crc.upd_lt hs hb)
  rw [show 10*(d+1)+1=10*d+1+10 by omega,impl_byte _ s hs x _ i zq3 hlt hsz,spec_byte _ s hs x i hlt hsz,natBytes_drop x i hlt]
  exact ⟨h1,h2⟩
def crcN (s:ByteArray):Nat:=Crc.sum 4294967295 (zDa s)
def sealN (s:ByteArray):ByteArray:=strOfNums [((crcN s:Nat):Int)/16777216%256,((crcN s:Nat):Int)/65536%256,((crcN s:Nat):Int)/256%256,((crcN s:Nat):Int)%256]
theorem seal_f (s:ByteArray) (hs:s.size≤140737488351232):impl_seal.f (10*s.size+1) s=some (sealN s)∧(spec_SumOf.f (10*s.size+1) s).bind spec_l02Four.f=some (sealN s):=by
 obtain ⟨h1,h2⟩:=sums s hs s.size 0 4294967295 zq3 zq32
 have z:((0:Nat):Int)=0:=rfl
 have y:((4294967295:Nat):Int)=4294967295:=rfl
 rw [z,y,List.drop_zero] at h1 h2
 unfold impl_seal.f impl_SumOf.f impl_SumMore.f spec_SumOf.f spec_SumMore.f
 rw [h1,h2]
 exact ⟨rfl,rfl⟩
theorem le_up {α:Type} {f:Nat→Option α} (h:∀k,LeO (f k) (f (k+1))) {k:Nat} {r:α} (hf:f k=some r):∀d,f (k+d)=some r
 |0=>hf
 |d+1=>h _ r (le_up h hf d)
theorem le_upto {α:Type} {f:Nat→Option α} (h:∀k,LeO (f k) (f (k+1))) {k K:Nat} {r:α} (hk:k≤K) (hf:f k=some r):f K=some r:=by
 obtain ⟨d,rfl⟩:=Nat.le.dest hk
 exact le_up h hf d
theorem or128:∀m:Fin 128,Go.bits .or .i64 ((m.val:Nat):Int) 128=((m.val+128:Nat):Int):=by decide+kernel
theorem varText_ev:∀(i n:Nat) (acc:List Int),n<128^(i+1)→acc.length+i<140737488355328→n<4611686018427387904→impl_varText.l0 (i+1) (n:Int) acc=some (strOfNums (acc++enc n)):=by
 intro i
 induction i with
 |zero=>
  intro n acc hn hl hb
  have h:n<128:=by simpa using hn
  simp only [impl_varText.l0]
  rw [if_neg zq3,if_pos zq3,zEa h,show (n:Int)%256=n by omega]
 |succ i ih=>
  intro n acc hn hl hb
  by_cases h:n<128
  ·simp only [impl_varText.l0]
   rw [if_neg zq3,if_pos zq3,zEa h,show (n:Int)%256=n by omega]
  ·have hd:n/128<128^(i+1):=by
    rw [Nat.div_lt_iff_lt_mul zq32]
    rwa [←Nat.pow_succ]
   have:=ih (n/128) (acc++[((n%128+128:Nat):Int)]) hd zq80 zq3
   rw [impl_varText.l0,if_pos zq3,if_pos zq3,enc_great h,i64_and127]
   rw [show ((n:Int)/128)=((n/128:Nat):Int) by omega]
   rw [show ((n:Int)%128)=((n%128:Nat):Int) by omega,or128 ⟨n%128,zq3⟩]
   rw [show (((n%128+128:Nat):Int))%256=((n%128+128:Nat):Int) by omega]
   rw [this]
   simp
def vtN (n:Int):ByteArray:=if 0≤n∧n≤100000 then strOfNums (enc n.toNat) else ⟨#[]⟩
theorem sealN_size (s:ByteArray):(sealN s).size=4:=by unfold sealN;rw [strOfNums_size];rfl
theorem txF:EvP (fun k=>TxF k vtN sealN):=by
 refine ⟨200001,fun k hk=>⟨fun n h0 h1=> ?_,fun n h0 h1=> ?_,fun n=> ?_,fun s hs=> ?_,fun s hs=> ?_,sealN_size⟩⟩
 ·refine le_upto (spec_l01Var.mono n) (show 3≤k by omega) ?_
  unfold spec_l01Var.f vtN
  rw [if_pos ⟨h0,h1⟩]
  obtain ⟨m,rfl⟩:=Int.eq_ofNat_of_zero_le h0
  exact l01Var_ev 2 m [] zq3 zq29 zq3
 ·refine le_upto (impl_varText.mono n) (show 3≤k by omega) ?_
  unfold impl_varText.f vtN
  rw [if_pos ⟨h0,h1⟩]
  obtain ⟨m,rfl⟩:=Int.eq_ofNat_of_zero_le h0
  exact varText_ev 2 m [] zq3 zq29 zq3
 ·unfold vtN
  split
  ·rename_i h
   rw [strOfNums_size]
   have:=enc_len 2 n.toNat zq3
   omega
  ·exact z7a _
 ·obtain ⟨_,h2⟩:=seal_f s zq3
  refine le_upto (spec_Sealed.mono s) (show 10*s.size+1≤k by omega) ?_
  unfold spec_Sealed.f
  have c1:¬(s.size:Int)>20000:=zq3
  rw [if_neg c1]
  cases hq:spec_SumOf.f (10*s.size+1) s with
  |none=>rw [hq] at h2;cases h2
  |some q=>
   rw [hq,Option.bind_some] at h2
   have h4:=sealN_size s
   rw [Option.bind_some,h2,Option.bind_some,if_pos zq3]
 ·exact le_upto (impl_seal.mono s) (show 10*s.size+1≤k by omega) (seal_f s zq3).1
end Go.Proofs.Ytonhdiemjgdcnaa.PFnExactGivePage
namespace Go.Proofs.Ytonhdiemjgdcnaa.PFnExactGivePage
open Go.RowKit Go.Proofs.YtonhdiemjgdcnaaW.PrintWords Go.Proofs.YtonhdiemjgdcnaaW.PrintLast Go.Proofs.YtonhdiemjgdcnaaW.PrintMore
attribute [local go_sem] zV zU zia zha zP zN zS zT
structure FrAt (w:World) (gA:Nat) (fr:List Int):Prop where mk::
 (out:∃(cs:List Value) (AF:Option Addr) (cF:Nat),w.heap[gA]?=some (.cells cs.toArray 56 (0,0))∧cs[9]?=some (.slice AF fr.length cF)∧Kd.C (Kd.int .i64) w AF fr.length fr)
theorem FrAt.step {w w':World} {gA:Nat} {fr:List Int} (h:FrAt w gA fr) (hb:Below w.heap.size w w'):FrAt w' gA fr:=by
 obtain ⟨cs,AF,cF,h1,h2,h3⟩:=h.out
 exact ⟨cs,AF,cF,zj h1 hb,h2,Kd.C_below h3 hb⟩
def kp (fr:List Int) (x:Int):Bool:= !hasB fr x
theorem filter_take_succ {α:Type} (q:α→Bool) (xs:List α) (j:Nat) (hj:j<xs.length):(xs.take (j+1)).filter q=(xs.take j).filter q++(if q xs[j]=true then [xs[j]] else []):=by
 rw [List.take_succ_eq_append_getElem hj,List.filter_append]
 congr 1
 by_cases h:q xs[j]=true
 ·rw [if_pos h,List.filter_cons_of_pos h];rfl
 ·rw [if_neg h,List.filter_cons_of_neg h];rfl
structure DelI (fr xs ys:List Int) (i j:Nat):Prop where
 len:ys.length=xs.length
 ij:i<j
 jn:j≤xs.length
 front:ys.take i=(xs.take j).filter (kp fr)
 back:ys.drop j=xs.drop j
theorem DelI.at_ {fr xs ys:List Int} {i j:Nat} (h:DelI fr xs ys i j) (hj:j<xs.length):ys[j]?=some xs[j]:=by
 have:=congrArg (fun l=>l[0]?) h.back
 simpa [List.getElem?_drop,List.getElem?_eq_getElem hj] using this
theorem DelI.skip {fr xs ys:List Int} {i j:Nat} (h:DelI fr xs ys i j) (hj:j<xs.length) (hp:hasB fr xs[j]=true):DelI fr xs ys i (j+1):=by
 refine ⟨h.len,by have:=h.ij;omega,hj,?_,?_⟩
 ·rw [filter_take_succ _ _ _ hj,h.front,if_neg (by simp [kp,hp]),List.append_nil]
 ·rw [←List.drop_drop,←List.drop_drop,h.back]
theorem zeb {w w':World} (h:Below w.heap.size w w') (row:Option Nat):w.grownBy w' row:=⟨h.os,h.tape,h.output,h.size,fun k hk _=>h.block k hk⟩
structure NB (w w':World) (cs:List Value) (g:Nat) (m3:List Value) (v:Value):Prop where
 A:w'.heap[w.heap.size]?=some (.cells cs.toArray 56 (0,0))
 R:w'.heap[w.heap.size+1]?=some (.cells ([.int .i64 0,.int .i64 0,.int .i64 0,.slice none 0 0]:List Value).toArray 53 (0,0))
 B:w'.heap[g]?=some (.cells (m3++([v]++[])).toArray 53 (0,0))
 bel:Below w.heap.size w w'
 hg:w.heap.size+1<g
theorem NB.step {w w' w2:World} {cs m3:List Value} {g:Nat} {v:Value} (h:NB w w' cs g m3 v) (hb:Below w'.heap.size w' w2):NB w w2 cs g m3 v:=⟨zj h.A hb,zj h.R hb,zj h.B hb,zf h.bel hb,h.hg⟩
theorem NB.grown {w w' w2:World} {cs m3:List Value} {g:Nat} {v:Value} (h:NB w w' cs g m3 v) {row:Option Nat} (hg:w'.grownBy w2 row) (hr:∀k,row=some k→g<k):NB w w2 cs g m3 v:=by
 have:=h.hg
 have:=zE h.B
 exact ⟨zaa h.A hg (fun e=>by have:=hr _ e.symm;omega),zaa h.R hg (fun e=>by have:=hr _ e.symm;omega),zaa h.B hg (fun e=>by have:=hr _ e.symm;omega),h.bel.grown hg h.bel.size (fun k hk=>by have:=hr k hk;omega),h.hg⟩
theorem nb0 (w:World) (cs m3:List Value):NB w (((w.alloc (.cells cs.toArray 56)).alloc (.cells ([.int .i64 0,.int .i64 0,.int .i64 0,.slice none 0 0]:List Value).toArray 53)).alloc (.cells (m3++([Value.slice none 0 0]++[])).toArray 53)) cs (w.heap.size+1+1) m3 (.slice none 0 0):=by
 refine ⟨zo (zo (zM w _) _) _,?_,?_,zi (zi (zi (z0a _ _) _) _) _,zq3⟩
 ·have h:=zM (w.alloc (.cells cs.toArray 56)) (.cells ([.int .i64 0,.int .i64 0,.int .i64 0,.slice none 0 0]:List Value).toArray 53)
  rw [show (w.alloc (.cells cs.toArray 56)).heap.size=w.heap.size+1 by simp] at h
  exact zo h _
 ·have h:=zM ((w.alloc (.cells cs.toArray 56)).alloc (.cells ([.int .i64 0,.int .i64 0,.int .i64 0,.slice none 0 0]:List Value).toArray 53)) (.cells (m3++([Value.slice none 0 0]++[])).toArray 53)
  rwa [show ((w.alloc (.cells cs.toArray 56)).alloc (.cells ([.int .i64 0,.int .i64 0,.int .i64 0,.slice none 0 0]:List Value).toArray 53)).heap.size=w.heap.size+1+1 by simp] at h
theorem NB.fr {w w':World} {cs m3:List Value} {g:Nat} {v:Value} (h:NB w w' cs g m3 v) {fr:List Int} {AF:Option Addr} {cF:Nat} (h9:cs[9]?=some (.slice AF fr.length cF)) (KF:Kd.C (Kd.int .i64) w AF fr.length fr) {row:Option Nat} (hr:∀k,row=some k→g<k):∀W',w'.grownBy W' row→FrAt W' w.heap.size fr:=
 fun W' hg=>⟨cs,AF,cF,(h.grown hg hr).A,h9,Kd.C_below KF (h.grown hg hr).bel⟩
def specMetaText.T3:Bool×List (List Nat×List Nat):=(true,[([],[]),([0],[0]),([1],[1]),([],[]),([3],[3]),([4,2],[4]),([2,5],[2,5]),([],[]),([7],[7]),([8,5],[8]),([6,9],[6,9]),([],[]),([11],[11]),([12],[12]),([13,9],[13]),([10,14],[10,14]),([15,14,0,1,2,3,4,5,6,7,8,9,10,11,12,13,14,15],[15])])
def specMetaText.B3:List Nat:=[0,1,3,0,8,31,63,0,128,447,1023,0,2048,6144,15295,32767,65535]
theorem specMetaText.ok3_0:regB (zgb Try.f93 3) specMetaText.T3 specMetaText.B3 [] [.p 0,.t 1,.p 3,.t 4,.p 7,.t 8,.p 11,.t 12,.p 13,.e 2,.e 5,.p 6,.e 9,.p 10,.e 14,.p 15,.p 16]=true:=zq8
def specMetaText.T7:Bool×List (List Nat×List Nat):=(true,[([],[]),([],[]),([1],[1]),([],[]),([2,3],[2,3]),([4],[4]),([5],[5]),([6],[6]),([0,7],[0,7]),([],[]),([9],[9]),([],[]),([10,11],[10,11]),([12],[12]),([13],[13]),([14],[14]),([15,7],[15]),([8,16],[8,16]),([17,16,0,1,2,3,4,5,6,7,8,9,10,11,12,13,14,15,16,17],[0,17])])
def specMetaText.B7:List Nat:=[0,0,2,0,14,30,62,126,255,0,512,0,3584,7680,15872,32256,65278,131071,262143]
theorem specMetaText.ok7_1:regB (zgb Try.f93 7) specMetaText.T7 specMetaText.B7 [] [.p 0,.p 1,.t 2,.p 3,.p 4,.p 5,.t 6,.p 9,.t 10,.p 11,.p 12,.p 13,.t 14,.p 15,.e 7,.p 8,.e 16,.p 17,.p 18]=true:=zq8
theorem specMetaText_c {k:Nat} {vt:Int→ByteArray} {sl:ByteArray→ByteArray} (T:TxF k vt sl) (x:S53) (t:ByteArray) (ok:Bool) {cs:List Value} (w:World) (h:k53.K w x cs) (hm:MTxt vt sl x t ok):
  Calls Try.prog 93 #[.agg cs.toArray] w fun e w'=>e= .returned (.tuple #[.string t,.bool ok])∧Below w.heap.size w w':=by
 have hK:=h
 obtain ⟨AF,cF,rfl,mF,rF⟩:=zYa h
 have KR:=zz rF
 have KM:=zz hK
 have HM:=zz hm
 have HV:=zz T
 have bn:=rF.2.1
 have BA:=zz (BoxAt.mk (cs:=[.int .i64 x.f0,.int .i64 x.f1,.int .i64 x.f2,.slice AF x.f3.length cF]) (zM w (.cells #[.int .i64 x.f0,.int .i64 x.f1,.int .i64 x.f2,.slice AF x.f3.length cF] 53)) (zi (z0a w.heap.size w) (.cells #[.int .i64 x.f0,.int .i64 x.f1,.int .i64 x.f2,.slice AF x.f3.length cF] 53)))
 clear h mF rF hm hK T
 by_cases hh:MOk x
 ·have HO:=zz hh
  have n0:=hh.f0
  have n1:=hh.f1
  have n2:=hh.f2
  have n3:=hh.len
  clear hh
  go_enter Try.func93,Try.ntmps93
  go_upto_region 3 with (first|((with_reducible refine zg (N:=9) rfl ?_);refine zl rfl 53 _ rfl w.heap.size 0 [] [.int .i64 x.f0,.int .i64 x.f1,.int .i64 x.f2,.slice AF x.f3.length cF] [] _ rfl BA.1.box rfl rfl Try.underlying53 rfl zq8 ?_)|((with_reducible refine (specMetaOk_c x true _ (k53.K_below BA.1.bel KM.1) ⟨fun _=>HO.1,fun _=>rfl⟩).mono ?_);rintro e w1 ⟨rfl,hb⟩;have BA1:=zz (BA.1.step hb);clear hb))
  have hp0:w1.cell? ⟨w.heap.size,0,none⟩=some (.int .i64 x.f0):=(zd BA1.1.box 0).trans rfl
  have hp1:w1.cell? ⟨w.heap.size,1,none⟩=some (.int .i64 x.f1):=(zd BA1.1.box 1).trans rfl
  have hp2:w1.cell? ⟨w.heap.size,2,none⟩=some (.int .i64 x.f2):=(zd BA1.1.box 2).trans rfl
  have hp3:w1.cell? ⟨w.heap.size,3,none⟩=some (.slice AF x.f3.length cF):=(zd BA1.1.box 3).trans rfl
  have s0:=HV.1.vz x.f0
  have s1:=HV.1.vz x.f1
  have s2:=HV.1.vz x.f2
  have s3:=HV.1.vz (x.f3.length:Int)
  have za:(9223372036854775807<(vt x.f0).size+(vt x.f1).size)=False:=eq_false zq3
  have zb:(9223372036854775807<(vt x.f0).size+(vt x.f1).size+(vt x.f2).size)=False:=eq_false zq3
  have zc:(9223372036854775807<(vt x.f0).size+(vt x.f1).size+(vt x.f2).size+(vt (x.f3.length:Int)).size)=False:=eq_false zq3
  have HK:=zz (z0a w1.heap.size w1).drew
  refine zsa specMetaText.ok3_0 (S:=fun w'=>w'.cell? ⟨w.heap.size,0,none⟩=some (.int .i64 x.f0)∧w'.cell? ⟨w.heap.size,1,none⟩=some (.int .i64 x.f1)∧w'.cell? ⟨w.heap.size,2,none⟩=some (.int .i64 x.f2)∧w'.cell? ⟨w.heap.size,3,none⟩=some (.slice AF x.f3.length cF)) zq8 (fun _ _ _ _ h=>h) ⟨ze hp0 HK.1,ze hp1 HK.1,ze hp2 HK.1,ze hp3 HK.1⟩ (fun hHeld=> ?_)
  (refine zY (v:= ?_) (a':= ?_) rfl rfl (Or.inl ⟨zq19,zq5⟩) zq2 ?_)
  (refine zQa (v:= ?_) (a':= ?_) rfl rfl (Or.inl ⟨zq19,zq35⟩) zq2 ?_)
  (refine zY (v:= ?_) (a':= ?_) rfl rfl (Or.inl ⟨zq19,zq5⟩) zq2 ?_)
  (refine zQa (v:= ?_) (a':= ?_) rfl rfl (Or.inl ⟨zq19,zq35⟩) zq2 ?_)
  (refine zY (v:= ?_) (a':= ?_) rfl rfl (Or.inl ⟨zq19,zq5⟩) zq2 ?_)
  (refine zQa (v:= ?_) (a':= ?_) rfl rfl (Or.inl ⟨zq19,zq35⟩) zq2 ?_)
  (refine zY (v:= ?_) (a':= ?_) rfl rfl (Or.inl ⟨zq19,zq5⟩) zq2 ?_)
  (refine zQa (v:= ?_) (a':= ?_) rfl rfl (Or.inl ⟨zq19,zq35⟩) zq2 ?_)
  (refine zY (v:= ?_) (a':= ?_) rfl rfl (Or.inl ⟨zq19,zq5⟩) zq2 ?_)
  refine zX rfl rfl Try.func139 zq8 rfl #[.int .i64 x.f0] zq19 rfl zq20 ?_
  with_reducible refine (varS HV.1 x.f0 n0.1 n0.2 _).mono ?_
  rintro e w2 ⟨rfl,hb⟩
  replace HK:=zz (zf HK.1 hb)
  clear hb
  refine ⟨_,rfl,⟨ze hp0 HK.1,ze hp1 HK.1,ze hp2 HK.1,ze hp3 HK.1⟩,(fun hHeld=> ?_)⟩
  refine zR (a':= ?_) zq2 ?_
  refine zX rfl rfl Try.func139 zq8 rfl #[.int .i64 x.f1] zq19 rfl zq20 ?_
  with_reducible refine (varS HV.1 x.f1 n1.1 n1.2 _).mono ?_
  rintro e w2 ⟨rfl,hb⟩
  replace HK:=zz (zf HK.1 hb)
  clear hb
  refine ⟨_,rfl,⟨ze hp0 HK.1,ze hp1 HK.1,ze hp2 HK.1,ze hp3 HK.1⟩,(fun hHeld=> ?_)⟩
  refine zR (a':= ?_) zq2 ?_
  (refine zY (v:= ?_) (a':= ?_) rfl rfl (Or.inl ⟨zq19,zq5⟩) zq2 ?_)
  refine zX rfl rfl Try.func139 zq8 rfl #[.int .i64 x.f2] zq19 rfl zq20 ?_
  with_reducible refine (varS HV.1 x.f2 n2.1 n2.2 _).mono ?_
  rintro e w2 ⟨rfl,hb⟩
  replace HK:=zz (zf HK.1 hb)
  clear hb
  refine ⟨_,rfl,⟨ze hp0 HK.1,ze hp1 HK.1,ze hp2 HK.1,ze hp3 HK.1⟩,(fun hHeld=> ?_)⟩
  refine zR (a':= ?_) zq2 ?_
  (refine zY (v:= ?_) (a':= ?_) rfl rfl (Or.inl ⟨zq19,zq5⟩) zq2 ?_)
  refine zX rfl rfl Try.func139 zq8 rfl #[.int .i64 (x.f3.length:Int)] zq19 rfl zq20 ?_
  with_reducible refine (varS HV.1 (x.f3.length:Int) zq3 zq3 _).mono ?_
  rintro e w2 ⟨rfl,hb⟩
  replace HK:=zz (zf HK.1 hb)
  clear hb
  refine ⟨_,rfl,⟨ze hp0 HK.1,ze hp1 HK.1,ze hp2 HK.1,ze hp3 HK.1⟩,(fun hHeld=> ?_)⟩
  refine zR (a':= ?_) zq2 ?_
  iterate 2 (refine zY (v:= ?_) (a':= ?_) rfl rfl (Or.inl ⟨zq19,zq5⟩) zq2 ?_)
  refine zKa ?_
  clear hHeld hp0 hp1 hp2 hp3 za zb zc s0 s1 s2 s3
  replace BA1:=zz (BA1.1.step HK.1)
  clear HK
  go_wp2_with fail
  go_loopg [4,5] (x.f3.length+1) (fun kq v4 v5 w'=>∃(i:Nat),v4= .string (facc vt (mhead vt x) (x.f3.take i))∧v5= .int .i64 (i:Int)∧Z0 (kq+i=x.f3.length+1)∧Z0 (i≤x.f3.length)∧Z0 (BoxAt w w' [.int .i64 x.f0,.int .i64 x.f1,.int .i64 x.f2,.slice AF x.f3.length cF]))
  case atStart=>exact ⟨0,rfl,rfl,⟨zq3⟩,⟨z7a _⟩,BA1⟩
  case round=>
   clear BA BA1
   obtain ⟨i,rfl,rfl,HQ,HI,BA⟩:=hrel
   obtain ⟨s,hs⟩:∃s,s=facc vt (mhead vt x) (x.f3.take i):=⟨_,rfl⟩
   have hsz:s.size≤7000:=zq143
   rw [←hs]
   have HSE:=zz hs
   clear hs
   by_cases hlt:i<x.f3.length
   ·have c1:decide ((i:Int)<(x.f3.length:Int))=true:=z6 zq3
    have c0:decide ((0:Int)≤(i:Int))=true:=z6 zq3
    have c2:((i:Int)<(x.f3.length:Int))=True:=eq_true zq3
    have c3:((0:Int)≤(i:Int))=True:=eq_true zq3
    cases gk with
    |zero=>exact absurd HQ.1 zq3
    |succ k1=>
     obtain ⟨ad,A1,c11,hA,z0,z1,hl4,hC4⟩:=at_T122 KR.1 (i:Int) zq3 zq3
     subst hA
     obtain ⟨el,hel⟩:∃el,el=zJ x.f3 (i:Int):=⟨_,rfl⟩
     have hel2:x.f3[i]?=some el:=zq60
     rw [←hel] at z0 z1 hl4 hC4
     simp only [Int.toNat_natCast] at z0 z1
     have Z1:=zz z1
     replace z0:=ze z0 BA.1.bel
     replace z1:=ze z1 BA.1.bel
     have HE:=zz hel2
     have KE:=zz hC4
     have be:el.f1.length≤9223372036854775807:=hC4.2.1
     have nf:=(HO.1.fr hel2).1
     have nl:=(HO.1.fr hel2).2.1
     have s0:=HV.1.vz el.f0
     have s3:=HV.1.vz (el.f1.length:Int)
     clear hel hel2 hC4 hl4
     have hp3:wr.cell? ⟨w.heap.size,3,none⟩=some (.slice (some ad) x.f3.length cF):=(zd BA.1.box 3).trans rfl
     have zp:=trivial
     have za:(9223372036854775807<s.size+(vt el.f0).size)=False:=eq_false zq3
     have zb:(9223372036854775807<s.size+(vt el.f0).size+(vt (el.f1.length:Int)).size)=False:=eq_false zq3
     go_upto_region 7 with (fail)
     have HK:=zz (z0a wr.heap.size wr).drew
     refine zsa specMetaText.ok7_1 (S:=fun w'=>w'.cell? ⟨w.heap.size,3,none⟩=some (.slice (some ad) x.f3.length cF)∧w'.cell? (ad.add (i*2))=some (.int .i64 el.f0)∧w'.cell? ⟨(ad.add (i*2)).block,(ad.add (i*2)).off+1,none⟩=some (.slice A1 el.f1.length c11)) zq8 (fun _ _ _ _ h=>h) ⟨ze hp3 HK.1,ze z0 HK.1,ze z1 HK.1⟩ (fun hHeld=> ?_)
     iterate 2 (refine zY (v:= ?_) (a':= ?_) rfl rfl (Or.inl ⟨zq19,zq5⟩) zq2 ?_)
     (refine zQa (v:= ?_) (a':= ?_) rfl rfl (Or.inl ⟨zq19,zq75⟩) zq2 ?_)
     iterate 3 (refine zY (v:= ?_) (a':= ?_) rfl rfl (Or.inl ⟨zq19,zq5⟩) zq2 ?_)
     (refine zQa (v:= ?_) (a':= ?_) rfl rfl (Or.inl ⟨zq19,zq75⟩) zq2 ?_)
     (refine zY (v:= ?_) (a':= ?_) rfl rfl (Or.inl ⟨zq19,zq5⟩) zq2 ?_)
     (refine zQa (v:= ?_) (a':= ?_) rfl rfl (Or.inl ⟨zq19,zq75⟩) zq2 ?_)
     iterate 3 (refine zY (v:= ?_) (a':= ?_) rfl rfl (Or.inl ⟨zq19,zq5⟩) zq2 ?_)
     (refine zQa (v:= ?_) (a':= ?_) rfl rfl (Or.inl ⟨zq19,zq75⟩) zq2 ?_)
     (refine zY (v:= ?_) (a':= ?_) rfl rfl (Or.inl ⟨zq19,zq5⟩) zq2 ?_)
     refine zX rfl rfl Try.func139 zq8 rfl #[.int .i64 el.f0] zq19 rfl zq20 ?_
     with_reducible refine (varS HV.1 el.f0 nf.1 nf.2 _).mono ?_
     rintro e w2 ⟨rfl,hb⟩
     replace HK:=zz (zf HK.1 hb)
     clear hb
     refine ⟨_,rfl,⟨ze hp3 HK.1,ze z0 HK.1,ze z1 HK.1⟩,(fun hHeld=> ?_)⟩
     refine zR (a':= ?_) zq2 ?_
     (refine zY (v:= ?_) (a':= ?_) rfl rfl (Or.inl ⟨zq19,zq5⟩) zq2 ?_)
     refine zX rfl rfl Try.func139 zq8 rfl #[.int .i64 (el.f1.length:Int)] zq19 rfl zq20 ?_
     with_reducible refine (varS HV.1 (el.f1.length:Int) zq3 zq3 _).mono ?_
     rintro e w2 ⟨rfl,hb⟩
     replace HK:=zz (zf HK.1 hb)
     clear hb
     refine ⟨_,rfl,⟨ze hp3 HK.1,ze z0 HK.1,ze z1 HK.1⟩,(fun hHeld=> ?_)⟩
     refine zR (a':= ?_) zq2 ?_
     iterate 2 (refine zY (v:= ?_) (a':= ?_) rfl rfl (Or.inl ⟨zq19,zq5⟩) zq2 ?_)
     refine zKa ?_
     clear hHeld zp za zb
     obtain ⟨s1,hs1⟩:∃s1,s1=s++vt el.f0++vt (el.f1.length:Int):=⟨_,rfl⟩
     have hsz1:s1.size≤7016:=by rw [hs1,ByteArray.size_append,ByteArray.size_append];omega
     rw [←hs1]
     have HS1:=zz hs1
     clear hs1 hp3 z0 z1
     replace BA:=zz (BA.1.step HK.1)
     clear HK s0 s3
     have hp3:=(zd BA.1.box 3).trans rfl
     clear hp3
     go_wp2_with fail
     go_loopg [4,6] (el.f1.length+1) (fun kq v4 v6 w'=>∃(j:Nat),v4= .string (pacc vt s1 (el.f1.take j))∧v6= .int .i64 (j:Int)∧Z0 (kq+j=el.f1.length+1)∧Z0 (j≤el.f1.length)∧Z0 (BoxAt w w' [.int .i64 x.f0,.int .i64 x.f1,.int .i64 x.f2,.slice (some ad) x.f3.length cF]))
     case atStart=>exact ⟨0,rfl,rfl,⟨zq3⟩,⟨z7a _⟩,BA⟩
     case round=>
      clear BA
      obtain ⟨j,rfl,rfl,HQ2,HI2,BA⟩:=hrel
      obtain ⟨s2,hs2⟩:∃s2,s2=pacc vt s1 (el.f1.take j):=⟨_,rfl⟩
      have hsz2:s2.size≤8000:=by
       have h1:=pacc_size HV.1.vz s1 (el.f1.take j)
       have h3:=List.length_take_le j el.f1
       have h4:=HI2.1
       rw [hs2]
       omega
      rw [←hs2]
      have HS2:=zz hs2
      clear hs2
      have hp3:wr.cell? ⟨w.heap.size,3,none⟩=some (.slice (some ad) x.f3.length cF):=(zd BA.1.box 3).trans rfl
      have z1:=ze Z1.1 BA.1.bel
      by_cases hk:j<el.f1.length
      ·have d1:decide ((j:Int)<(el.f1.length:Int))=true:=z6 zq3
       have d0:decide ((0:Int)≤(j:Int))=true:=z6 zq3
       have d2:((j:Int)<(el.f1.length:Int))=True:=eq_true zq3
       have d3:((0:Int)≤(j:Int))=True:=eq_true zq3
       cases gk with
       |zero=>exact absurd HQ2.1 zq3
       |succ k2=>
        obtain ⟨ap,hAp,pc⟩:=C_at KE.1 hk
        subst hAp
        obtain ⟨p,hp⟩:∃p,p=el.f1[j]:=⟨_,rfl⟩
        rw [←hp] at pc
        have HPK:=zz (show el.f1[j]?=some p from by rw [hp];exact List.getElem?_eq_getElem hk)
        clear hp
        replace pc:=ze pc BA.1.bel
        have np:=(HO.1.fr HE.1).2.2 j p HPK.1
        have sp:=HV.1.vz p
        have za:(9223372036854775807<s2.size+(vt p).size)=False:=eq_false zq3
        go_wp2_with ((with_reducible refine (varS HV.1 p np.1 np.2 _).mono ?_);rintro e w2 ⟨rfl,hb⟩;have HB2:=zz hb;clear hb pc hp3 z1)
        go_roundg k2
        case measure=>omega
        case rel=>exact ⟨j+1,by rw [pacc_succ HPK.1,←HS2.1],by go_num,⟨zq37 HQ2.1⟩,⟨zq3⟩,⟨BA.1.step HB2.1⟩⟩
      ·have d1:decide ((j:Int)<(el.f1.length:Int))=false:=z7 zq3
       have HJ:=zz (show j=el.f1.length by have:=HI2.1;omega)
       go_wp2
       go_roundg k1
       case measure=>omega
       case rel=>exact ⟨i+1,by rw [facc_succ HE.1,←HSE.1,←HS1.1,HS2.1,HJ.1,List.take_length],by go_num,⟨by have:=HQ.1;omega⟩,⟨zq3⟩,BA⟩
   ·have c1:decide ((i:Int)<(x.f3.length:Int))=false:=z7 zq3
    have hsb:s=mbody vt x:=by rw [HSE.1,show i=x.f3.length by have:=HI.1;omega,List.take_length];rfl
    have HSB:=zz hsb
    clear hsb
    obtain ⟨t0,ht0⟩:∃t0,t0=s++sl s:=⟨_,rfl⟩
    have HT0:=zz ht0
    have hsl4:(sl s).size≤4:=Nat.le_of_eq (HV.1.sz s)
    have hw:(240<t0.size∧t=⟨#[]⟩∧ok=false)∨(t0.size≤240∧t=t0∧ok=true):=zq159
    clear ht0
    have hp3:wr.cell? ⟨w.heap.size,3,none⟩=some (.slice AF x.f3.length cF):=(zd BA.1.box 3).trans rfl
    rcases hw with ⟨h,rfl,rfl⟩|⟨h,he,rfl⟩
    ·have g1:decide (240<(t0.size:Int))=true:=z6 zq3
     have g2:decide (240<t0.size)=true:=z6 h
     exact zq138
    ·obtain rfl:t0=t:=he.symm
     have g1:decide (240<(t0.size:Int))=false:=z7 zq3
     have g2:decide (240<t0.size)=false:=z7 zq3
     exact zq138
 ·have HO:=zz hh
  obtain ⟨ht,hk⟩:t=⟨#[]⟩∧ok=false:=by
   rcases HM.1 with h|h|h
   ·exact h.2
   ·exact absurd h.1 hh
   ·exact absurd h.1 hh
  subst ht
  subst hk
  clear hh
  go_enter Try.func93,Try.ntmps93
  go_wp2_with (first|((with_reducible refine zg (N:=9) rfl ?_);refine zl rfl 53 _ rfl w.heap.size 0 [] [.int .i64 x.f0,.int .i64 x.f1,.int .i64 x.f2,.slice AF x.f3.length cF] [] _ rfl BA.1.box rfl rfl Try.underlying53 rfl zq8 ?_)|((with_reducible refine (specMetaOk_c x false _ (k53.K_below BA.1.bel KM.1) ⟨fun h=>(by cases h),fun h=>absurd h HO.1⟩).mono ?_);rintro e w1 ⟨rfl,hb⟩;have BA1:=zz (BA.1.step hb);clear hb))
  go_ret2
  exact ⟨rfl,BA1.1.bel⟩
end Go.Proofs.Ytonhdiemjgdcnaa.PFnExactGivePage
namespace Go.Proofs
open Go.Shelf
end Go.Proofs
namespace Go.Proofs.Ytonhdiemjgdcnaa.PFnExactGivePage
open Go.RowKit Go.Proofs.YtonhdiemjgdcnaaW.PrintWords Go.Proofs.YtonhdiemjgdcnaaW.PrintLast Go.Proofs.YtonhdiemjgdcnaaW.PrintMore
attribute [local go_sem] zV zU zia zha zP zN zS zT
def implMetaText.T3:Bool×List (List Nat×List Nat):=(true,[([],[]),([0],[0]),([1],[1]),([],[]),([3],[3]),([4,2],[4]),([2,5],[2,5]),([],[]),([7],[7]),([8,5],[8]),([6,9],[6,9]),([],[]),([11],[11]),([12],[12]),([13,9],[13]),([10,14],[10,14]),([15,14,0,1,2,3,4,5,6,7,8,9,10,11,12,13,14,15],[15])])
def implMetaText.B3:List Nat:=[0,1,3,0,8,31,63,0,128,447,1023,0,2048,6144,15295,32767,65535]
theorem implMetaText.ok3_2:regB (zgb Try.f99 3) implMetaText.T3 implMetaText.B3 [] [.p 0,.t 1,.p 3,.t 4,.p 7,.t 8,.p 11,.t 12,.p 13,.e 2,.e 5,.p 6,.e 9,.p 10,.e 14,.p 15,.p 16]=true:=zq8
def implMetaText.T7:Bool×List (List Nat×List Nat):=(true,[([],[]),([],[]),([1],[1]),([2],[2]),([],[]),([4],[4]),([5],[5]),([6,3],[6]),([3,7],[3,7]),([0,8],[0,8]),([9,7,0,1,2,3,4,5,6,7,8,9],[0,9])])
def implMetaText.B7:List Nat:=[0,0,2,6,0,16,48,126,254,511,1023]
theorem implMetaText.ok7_3:regB (zgb Try.f99 7) implMetaText.T7 implMetaText.B7 [] [.p 0,.p 1,.t 2,.p 4,.t 5,.p 6,.e 3,.e 7,.p 8,.p 9,.p 10]=true:=zq8
theorem implMetaText_c {k:Nat} {vt:Int→ByteArray} {sl:ByteArray→ByteArray} (T:TxF k vt sl) (x:S53) (t:ByteArray) (ok:Bool) {cs:List Value} (w:World) (h:k53.K w x cs) (hm:MTxt vt sl x t ok):
  Calls Try.prog 99 #[.agg cs.toArray] w fun e w'=>e= .returned (.tuple #[.string t,.bool ok])∧Below w.heap.size w w':=by
 have hK:=h
 obtain ⟨AF,cF,rfl,mF,rF⟩:=zYa h
 have KR:=zz rF
 have KM:=zz hK
 have HM:=zz hm
 have HV:=zz T
 have bn:=rF.2.1
 have BA:=zz (BoxAt.mk (cs:=[.int .i64 x.f0,.int .i64 x.f1,.int .i64 x.f2,.slice AF x.f3.length cF]) (zM w (.cells #[.int .i64 x.f0,.int .i64 x.f1,.int .i64 x.f2,.slice AF x.f3.length cF] 53)) (zi (z0a w.heap.size w) (.cells #[.int .i64 x.f0,.int .i64 x.f1,.int .i64 x.f2,.slice AF x.f3.length cF] 53)))
 clear h mF rF hm hK T
 by_cases hh:MOk x
 ·have HO:=zz hh
  have n0:=hh.f0
  have n1:=hh.f1
  have n2:=hh.f2
  have n3:=hh.len
  clear hh
  go_enter Try.func99,Try.ntmps99
  go_upto_region 3 with (first|((with_reducible refine zg (N:=9) rfl ?_);refine zl rfl 53 _ rfl w.heap.size 0 [] [.int .i64 x.f0,.int .i64 x.f1,.int .i64 x.f2,.slice AF x.f3.length cF] [] _ rfl BA.1.box rfl rfl Try.underlying53 rfl zq8 ?_)|((with_reducible refine (implMetaOk_c x true _ (k53.K_below BA.1.bel KM.1) ⟨fun _=>HO.1,fun _=>rfl⟩).mono ?_);rintro e w1 ⟨rfl,hb⟩;have BA1:=zz (BA.1.step hb);clear hb))
  have hp0:w1.cell? ⟨w.heap.size,0,none⟩=some (.int .i64 x.f0):=(zd BA1.1.box 0).trans rfl
  have hp1:w1.cell? ⟨w.heap.size,1,none⟩=some (.int .i64 x.f1):=(zd BA1.1.box 1).trans rfl
  have hp2:w1.cell? ⟨w.heap.size,2,none⟩=some (.int .i64 x.f2):=(zd BA1.1.box 2).trans rfl
  have hp3:w1.cell? ⟨w.heap.size,3,none⟩=some (.slice AF x.f3.length cF):=(zd BA1.1.box 3).trans rfl
  have s0:=HV.1.vz x.f0
  have s1:=HV.1.vz x.f1
  have s2:=HV.1.vz x.f2
  have s3:=HV.1.vz (x.f3.length:Int)
  have za:(9223372036854775807<(vt x.f0).size+(vt x.f1).size)=False:=eq_false zq3
  have zb:(9223372036854775807<(vt x.f0).size+(vt x.f1).size+(vt x.f2).size)=False:=eq_false zq3
  have zc:(9223372036854775807<(vt x.f0).size+(vt x.f1).size+(vt x.f2).size+(vt (x.f3.length:Int)).size)=False:=eq_false zq3
  have HK:=zz (z0a w1.heap.size w1).drew
  refine zsa implMetaText.ok3_2 (S:=fun w'=>w'.cell? ⟨w.heap.size,0,none⟩=some (.int .i64 x.f0)∧w'.cell? ⟨w.heap.size,1,none⟩=some (.int .i64 x.f1)∧w'.cell? ⟨w.heap.size,2,none⟩=some (.int .i64 x.f2)∧w'.cell? ⟨w.heap.size,3,none⟩=some (.slice AF x.f3.length cF)) zq8 (fun _ _ _ _ h=>h) ⟨ze hp0 HK.1,ze hp1 HK.1,ze hp2 HK.1,ze hp3 HK.1⟩ (fun hHeld=> ?_)
  (refine zY (v:= ?_) (a':= ?_) rfl rfl (Or.inl ⟨zq19,zq5⟩) zq2 ?_)
  (refine zQa (v:= ?_) (a':= ?_) rfl rfl (Or.inl ⟨zq19,zq35⟩) zq2 ?_)
  (refine zY (v:= ?_) (a':= ?_) rfl rfl (Or.inl ⟨zq19,zq5⟩) zq2 ?_)
  (refine zQa (v:= ?_) (a':= ?_) rfl rfl (Or.inl ⟨zq19,zq35⟩) zq2 ?_)
  (refine zY (v:= ?_) (a':= ?_) rfl rfl (Or.inl ⟨zq19,zq5⟩) zq2 ?_)
  (refine zQa (v:= ?_) (a':= ?_) rfl rfl (Or.inl ⟨zq19,zq35⟩) zq2 ?_)
  (refine zY (v:= ?_) (a':= ?_) rfl rfl (Or.inl ⟨zq19,zq5⟩) zq2 ?_)
  (refine zQa (v:= ?_) (a':= ?_) rfl rfl (Or.inl ⟨zq19,zq35⟩) zq2 ?_)
  (refine zY (v:= ?_) (a':= ?_) rfl rfl (Or.inl ⟨zq19,zq5⟩) zq2 ?_)
  refine zX rfl rfl Try.func110 zq8 rfl #[.int .i64 x.f0] zq19 rfl zq20 ?_
  with_reducible refine (varI HV.1 x.f0 n0.1 n0.2 _).mono ?_
  rintro e w2 ⟨rfl,hb⟩
  replace HK:=zz (zf HK.1 hb)
  clear hb
  refine ⟨_,rfl,⟨ze hp0 HK.1,ze hp1 HK.1,ze hp2 HK.1,ze hp3 HK.1⟩,(fun hHeld=> ?_)⟩
  refine zR (a':= ?_) zq2 ?_
  refine zX rfl rfl Try.func110 zq8 rfl #[.int .i64 x.f1] zq19 rfl zq20 ?_
  with_reducible refine (varI HV.1 x.f1 n1.1 n1.2 _).mono ?_
  rintro e w2 ⟨rfl,hb⟩
  replace HK:=zz (zf HK.1 hb)
  clear hb
  refine ⟨_,rfl,⟨ze hp0 HK.1,ze hp1 HK.1,ze hp2 HK.1,ze hp3 HK.1⟩,(fun hHeld=> ?_)⟩
  refine zR (a':= ?_) zq2 ?_
  (refine zY (v:= ?_) (a':= ?_) rfl rfl (Or.inl ⟨zq19,zq5⟩) zq2 ?_)
  refine zX rfl rfl Try.func110 zq8 rfl #[.int .i64 x.f2] zq19 rfl zq20 ?_
  with_reducible refine (varI HV.1 x.f2 n2.1 n2.2 _).mono ?_
  rintro e w2 ⟨rfl,hb⟩
  replace HK:=zz (zf HK.1 hb)
  clear hb
  refine ⟨_,rfl,⟨ze hp0 HK.1,ze hp1 HK.1,ze hp2 HK.1,ze hp3 HK.1⟩,(fun hHeld=> ?_)⟩
  refine zR (a':= ?_) zq2 ?_
  (refine zY (v:= ?_) (a':= ?_) rfl rfl (Or.inl ⟨zq19,zq5⟩) zq2 ?_)
  refine zX rfl rfl Try.func110 zq8 rfl #[.int .i64 (x.f3.length:Int)] zq19 rfl zq20 ?_
  with_reducible refine (varI HV.1 (x.f3.length:Int) zq3 zq3 _).mono ?_
  rintro e w2 ⟨rfl,hb⟩
  replace HK:=zz (zf HK.1 hb)
  clear hb
  refine ⟨_,rfl,⟨ze hp0 HK.1,ze hp1 HK.1,ze hp2 HK.1,ze hp3 HK.1⟩,(fun hHeld=> ?_)⟩
  refine zR (a':= ?_) zq2 ?_
  iterate 2 (refine zY (v:= ?_) (a':= ?_) rfl rfl (Or.inl ⟨zq19,zq5⟩) zq2 ?_)
  refine zKa ?_
  clear hHeld hp0 hp1 hp2 hp3 za zb zc s0 s1 s2 s3
  replace BA1:=zz (BA1.1.step HK.1)
  clear HK
  have hp3:w2.cell? ⟨w.heap.size,3,none⟩=some (.slice AF x.f3.length cF):=(zd BA1.1.box 3).trans rfl
  go_wp2_with fail
  clear hp3
  go_loopg [4,31] (x.f3.length+1) (fun kq v4 v5 w'=>∃(i:Nat),v4= .string (facc vt (mhead vt x) (x.f3.take i))∧v5= .int .i64 (i:Int)∧Z0 (kq+i=x.f3.length+1)∧Z0 (i≤x.f3.length)∧Z0 (BoxAt w w' [.int .i64 x.f0,.int .i64 x.f1,.int .i64 x.f2,.slice AF x.f3.length cF]))
  case atStart=>exact ⟨0,rfl,rfl,⟨zq3⟩,⟨z7a _⟩,BA1⟩
  case round=>
   clear BA BA1
   obtain ⟨i,rfl,rfl,HQ,HI,BA⟩:=hrel
   obtain ⟨s,hs⟩:∃s,s=facc vt (mhead vt x) (x.f3.take i):=⟨_,rfl⟩
   have hsz:s.size≤7000:=zq143
   rw [←hs]
   have HSE:=zz hs
   clear hs
   by_cases hlt:i<x.f3.length
   ·have c1:decide ((i:Int)<(x.f3.length:Int))=true:=z6 zq3
    have c0:decide ((0:Int)≤(i:Int))=true:=z6 zq3
    have c2:((i:Int)<(x.f3.length:Int))=True:=eq_true zq3
    have c3:((0:Int)≤(i:Int))=True:=eq_true zq3
    cases gk with
    |zero=>exact absurd HQ.1 zq3
    |succ k1=>
     obtain ⟨ad,A1,c11,hA,z0,z1,hl4,hC4⟩:=at_T122 KR.1 (i:Int) zq3 zq3
     subst hA
     obtain ⟨el,hel⟩:∃el,el=zJ x.f3 (i:Int):=⟨_,rfl⟩
     have hel2:x.f3[i]?=some el:=zq60
     rw [←hel] at z0 z1 hl4 hC4
     simp only [Int.toNat_natCast] at z0 z1
     replace z0:=ze z0 BA.1.bel
     replace z1:=ze z1 BA.1.bel
     have HE:=zz hel2
     have KE:=zz hC4
     have be:el.f1.length≤9223372036854775807:=hC4.2.1
     have nf:=(HO.1.fr hel2).1
     have nl:=(HO.1.fr hel2).2.1
     have s0:=HV.1.vz el.f0
     have s3:=HV.1.vz (el.f1.length:Int)
     clear hel hel2 hC4 hl4
     have zp:=trivial
     have za:(9223372036854775807<(vt el.f0).size+(vt (el.f1.length:Int)).size)=False:=eq_false zq3
     have zb:(9223372036854775807<s.size+((vt el.f0).size+(vt (el.f1.length:Int)).size))=False:=eq_false zq3
     go_upto_region 7 with (fail)
     obtain ⟨W1,hW1⟩:∃W1,W1=wr.alloc (.cells #[.int .i64 el.f0,.slice A1 el.f1.length c11] 122):=⟨_,rfl⟩
     have BF:=zz (show W1.heap[wr.heap.size]?=some (.cells ([.int .i64 el.f0,.slice A1 el.f1.length c11]:List Value).toArray 122 (0,0)) from by rw [hW1];exact zM wr _)
     have HB1:=zz (show Below wr.heap.size wr W1 from by rw [hW1];exact zi (z0a _ _) _)
     rw [←hW1]
     obtain ⟨gF,hgF⟩:∃g,g=wr.heap.size:=⟨_,rfl⟩
     rw [←hgF] at BF ⊢
     clear hW1 z0 z1 hgF
     replace BA:=zz (BA.1.step HB1.1)
     clear HB1
     have hf0:W1.cell? ⟨gF,0,none⟩=some (.int .i64 el.f0):=(zd BF.1 0).trans rfl
     have hf1:W1.cell? ⟨gF,1,none⟩=some (.slice A1 el.f1.length c11):=(zd BF.1 1).trans rfl
     have HK:=zz (z0a W1.heap.size W1).drew
     refine zsa implMetaText.ok7_3 (S:=fun w'=>w'.cell? ⟨gF,0,none⟩=some (.int .i64 el.f0)∧w'.cell? ⟨gF,1,none⟩=some (.slice A1 el.f1.length c11)) zq8 (fun _ _ _ _ h=>h) ⟨ze hf0 HK.1,ze hf1 HK.1⟩ (fun hHeld=> ?_)
     iterate 2 (refine zY (v:= ?_) (a':= ?_) rfl rfl (Or.inl ⟨zq19,zq5⟩) zq2 ?_)
     (refine zQa (v:= ?_) (a':= ?_) rfl rfl (Or.inl ⟨zq19,zq57⟩) zq2 ?_)
     (refine zY (v:= ?_) (a':= ?_) rfl rfl (Or.inl ⟨zq19,zq5⟩) zq2 ?_)
     (refine zQa (v:= ?_) (a':= ?_) rfl rfl (Or.inl ⟨zq19,zq57⟩) zq2 ?_)
     (refine zY (v:= ?_) (a':= ?_) rfl rfl (Or.inl ⟨zq19,zq5⟩) zq2 ?_)
     refine zX rfl rfl Try.func110 zq8 rfl #[.int .i64 el.f0] zq19 rfl zq20 ?_
     with_reducible refine (varI HV.1 el.f0 nf.1 nf.2 _).mono ?_
     rintro e w2 ⟨rfl,hb⟩
     replace HK:=zz (zf HK.1 hb)
     clear hb
     refine ⟨_,rfl,⟨ze hf0 HK.1,ze hf1 HK.1⟩,(fun hHeld=> ?_)⟩
     refine zR (a':= ?_) zq2 ?_
     refine zX rfl rfl Try.func110 zq8 rfl #[.int .i64 (el.f1.length:Int)] zq19 rfl zq20 ?_
     with_reducible refine (varI HV.1 (el.f1.length:Int) zq3 zq3 _).mono ?_
     rintro e w2 ⟨rfl,hb⟩
     replace HK:=zz (zf HK.1 hb)
     clear hb
     refine ⟨_,rfl,⟨ze hf0 HK.1,ze hf1 HK.1⟩,(fun hHeld=> ?_)⟩
     refine zR (a':= ?_) zq2 ?_
     iterate 3 (refine zY (v:= ?_) (a':= ?_) rfl rfl (Or.inl ⟨zq19,zq5⟩) zq2 ?_)
     refine zKa ?_
     clear hHeld zp za zb
     obtain ⟨s1,hs1⟩:∃s1,s1=s++(vt el.f0++vt (el.f1.length:Int)):=⟨_,rfl⟩
     have hsz1:s1.size≤7016:=by rw [hs1,ByteArray.size_append,ByteArray.size_append];omega
     rw [←hs1]
     have HS1:=zz hs1
     clear hs1 hf0 hf1
     replace BA:=zz (BA.1.step HK.1)
     replace BF:=zz (zj BF.1 HK.1)
     clear HK s0 s3
     have HK:=trivial
     have hf1:w2.cell? ⟨gF,1,none⟩=some (.slice A1 el.f1.length c11):=(zd BF.1 1).trans rfl
     go_wp2_with fail
     clear hf1 BF HK
     go_loopg [4,48] (el.f1.length+1) (fun kq v4 v6 w'=>∃(j:Nat),v4= .string (pacc vt s1 (el.f1.take j))∧v6= .int .i64 (j:Int)∧Z0 (kq+j=el.f1.length+1)∧Z0 (j≤el.f1.length)∧Z0 (BoxAt w w' [.int .i64 x.f0,.int .i64 x.f1,.int .i64 x.f2,.slice (some ad) x.f3.length cF]))
     case atStart=>exact ⟨0,rfl,rfl,⟨zq3⟩,⟨z7a _⟩,BA⟩
     case round=>
      clear BA
      obtain ⟨j,rfl,rfl,HQ2,HI2,BA⟩:=hrel
      obtain ⟨s2,hs2⟩:∃s2,s2=pacc vt s1 (el.f1.take j):=⟨_,rfl⟩
      have hsz2:s2.size≤8000:=by
       have h1:=pacc_size HV.1.vz s1 (el.f1.take j)
       have h3:=List.length_take_le j el.f1
       have h4:=HI2.1
       rw [hs2]
       omega
      rw [←hs2]
      have HS2:=zz hs2
      clear hs2
      by_cases hk:j<el.f1.length
      ·have d1:decide ((j:Int)<(el.f1.length:Int))=true:=z6 zq3
       have d0:decide ((0:Int)≤(j:Int))=true:=z6 zq3
       have d2:((j:Int)<(el.f1.length:Int))=True:=eq_true zq3
       have d3:((0:Int)≤(j:Int))=True:=eq_true zq3
       cases gk with
       |zero=>exact absurd HQ2.1 zq3
       |succ k2=>
        obtain ⟨ap,hAp,pc⟩:=C_at KE.1 hk
        subst hAp
        obtain ⟨p,hp⟩:∃p,p=el.f1[j]:=⟨_,rfl⟩
        rw [←hp] at pc
        have HPK:=zz (show el.f1[j]?=some p from by rw [hp];exact List.getElem?_eq_getElem hk)
        clear hp
        replace pc:=ze pc BA.1.bel
        have np:=(HO.1.fr HE.1).2.2 j p HPK.1
        have sp:=HV.1.vz p
        have za:(9223372036854775807<s2.size+(vt p).size)=False:=eq_false zq3
        go_wp2_with ((with_reducible refine (varI HV.1 p np.1 np.2 _).mono ?_);rintro e w2 ⟨rfl,hb⟩;have HB2:=zz hb;clear hb pc)
        go_roundg k2
        case measure=>omega
        case rel=>exact ⟨j+1,by rw [pacc_succ HPK.1,←HS2.1],by go_num,⟨zq37 HQ2.1⟩,⟨zq3⟩,⟨BA.1.step HB2.1⟩⟩
      ·have d1:decide ((j:Int)<(el.f1.length:Int))=false:=z7 zq3
       have HJ:=zz (show j=el.f1.length by have:=HI2.1;omega)
       go_wp2
       go_roundg k1
       case measure=>omega
       case rel=>exact ⟨i+1,by rw [facc_succ HE.1,←HSE.1,ByteArray.append_assoc,←HS1.1,HS2.1,HJ.1,List.take_length],by go_num,⟨by have:=HQ.1;omega⟩,⟨zq3⟩,BA⟩
   ·have c1:decide ((i:Int)<(x.f3.length:Int))=false:=z7 zq3
    have hsb:s=mbody vt x:=by rw [HSE.1,show i=x.f3.length by have:=HI.1;omega,List.take_length];rfl
    have HSB:=zz hsb
    clear hsb
    obtain ⟨t0,ht0⟩:∃t0,t0=s++sl s:=⟨_,rfl⟩
    have HT0:=zz ht0
    have hsl4:(sl s).size≤4:=Nat.le_of_eq (HV.1.sz s)
    have hw:(240<t0.size∧t=⟨#[]⟩∧ok=false)∨(t0.size≤240∧t=t0∧ok=true):=zq159
    clear ht0
    have zt:(9223372036854775807<s.size+(sl s).size)=False:=eq_false zq3
    rcases hw with ⟨h,rfl,rfl⟩|⟨h,he,rfl⟩
    ·have g1:decide (240<(t0.size:Int))=true:=z6 zq3
     have g2:decide (240<t0.size)=true:=z6 h
     have hq:t0.size=s.size+(sl s).size:=by rw [HT0.1,ByteArray.size_append]
     have g3:decide (240<(s.size:Int)+((sl s).size:Int))=true:=z6 zq3
     have g4:decide (240<s.size+(sl s).size)=true:=z6 zq3
     exact zq132
    ·obtain rfl:t0=t:=he.symm
     have g1:decide (240<(t0.size:Int))=false:=z7 zq3
     have g2:decide (240<t0.size)=false:=z7 zq3
     have hq:t0.size=s.size+(sl s).size:=by rw [HT0.1,ByteArray.size_append]
     have g3:decide (240<(s.size:Int)+((sl s).size:Int))=false:=z7 zq3
     have g4:decide (240<s.size+(sl s).size)=false:=z7 zq3
     exact zq132
 ·have HO:=zz hh
  obtain ⟨ht,hk⟩:t=⟨#[]⟩∧ok=false:=by
   rcases HM.1 with h|h|h
   ·exact h.2
   ·exact absurd h.1 hh
   ·exact absurd h.1 hh
  subst ht
  subst hk
  clear hh
  go_enter Try.func99,Try.ntmps99
  go_wp2_with (first|((with_reducible refine zg (N:=9) rfl ?_);refine zl rfl 53 _ rfl w.heap.size 0 [] [.int .i64 x.f0,.int .i64 x.f1,.int .i64 x.f2,.slice AF x.f3.length cF] [] _ rfl BA.1.box rfl rfl Try.underlying53 rfl zq8 ?_)|((with_reducible refine (implMetaOk_c x false _ (k53.K_below BA.1.bel KM.1) ⟨fun h=>(by cases h),fun h=>absurd h HO.1⟩).mono ?_);rintro e w1 ⟨rfl,hb⟩;have BA1:=zz (BA.1.step hb);clear hb))
  go_ret2
  exact ⟨rfl,BA1.1.bel⟩
@[reducible] def EqMeta (k:Nat) (z:S53):Prop:=eqMeta_c_f k z z=some true
@[reducible] def HeldMeta (k:Nat) (z:S53) (a r:Int):Prop:=zOa k z a=some r
theorem mt_ex_ (vt:Int→ByteArray) (sl:ByteArray→ByteArray) (x:S53):∃t b,MTxt vt sl x t b∧(b=true→MOk x):=by
 by_cases h:MOk x
 ·by_cases g:240<(mbody vt x++sl (mbody vt x)).size
  ·exact ⟨_,_,.inr (.inl ⟨h,g,rfl,rfl⟩),fun h=>by cases h⟩
  ·exact ⟨_,_,.inr (.inr ⟨h,zq3,rfl,rfl⟩),fun _=>h⟩
 ·exact ⟨_,_,.inl ⟨h,rfl,rfl⟩,fun h=>by cases h⟩
theorem MOk.okn {x:S53} (h:MOk x):OKn x.f3:=by
 have:=h.len
 exact ⟨zq3,fun s hs=>by have:=h.le40 s hs;omega⟩
end Go.Proofs.Ytonhdiemjgdcnaa.PFnExactGivePage
