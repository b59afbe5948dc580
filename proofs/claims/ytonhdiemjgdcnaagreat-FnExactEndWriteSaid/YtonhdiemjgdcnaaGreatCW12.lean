import Derived.Test.YtonhdiemjgdcnaaGreatCW11
import Derived.Lib.Bytes
import Derived.Lib.Strings
import Derived.Laws.Bits128
import Derived.Laws.BitsAllLaws
import Derived.Shelf.Abstract
set_option maxHeartbeats 64000000
set_option maxRecDepth 100000
set_option linter.unusedVariables false
set_option linter.unusedSimpArgs false
namespace Go.Proofs
theorem zq74{P:Prop}(h:P:=by rintro w' ⟨s0,s1,s2,s3,s4,s5,s6⟩;go_simp;with_reducible rfl):P:=h
theorem zq138{P:Prop}(h:P:=by rw [w64 (by omega) (by omega)];omega):P:=h
theorem zq141{P:Prop}(h:P:=by
 clear hHeld
 have HB2:=zz (ze (z1a _ _).drew hb)
 clear hp0 hp1 hp2 hp3 hf0 hf1 hb
 replace HS:=zz (HS.1.step HB2.1)
 replace BF:=zz (zg BF.1 HB2.1)
 clear HB2 KE1
 have hf1:w2.cell? ⟨gF,1,none⟩=some (.slice A1 el.f1.length c11):=(zj BF.1 1).trans rfl
 go_wp2_with fail
 clear hf1
 go_loopg [3,72] (el.f1.length+1) (fun kq v3 v6 w'=>∃(k:Nat) (v:Value),v3=v∧v6= .int .i64 (k:Int)∧Z0 (kq+k=el.f1.length+1)∧Z0 (k≤el.f1.length)∧Z0 (∀(j:Nat) (p:Int),j<k→el.f1[j]?=some p→PgOk x (zNa x i) el.f1 j p)∧Z0 (SeenAt w w' [.int .i64 x.f0,.int .i64 x.f1,.int .i64 x.f2,.slice (some ad) x.f3.length cF] (zNa x i++el.f1.take k) v)∧Z0 (w'.heap[gF]?=some (.cells ([.int .i64 el.f0,.slice A1 el.f1.length c11]:List Value).toArray 112 (0,0)))∧Z0 (∀q,v.ownBlock=some q→q≠gF))
 case atStart=>exact ⟨0,_,rfl,rfl,⟨zq9⟩,⟨z0b _⟩,⟨fun j p h=>absurd h (Nat.not_lt_zero _)⟩,⟨by rw [List.take_zero,List.append_nil];exact HS.1⟩,BF,⟨fun q hq=>z8a (OW.1 q hq)⟩⟩
 case round=>
  clear HS BF OW
  obtain ⟨k,v,rfl,rfl,HQ2,HI2,HP2,HS,BF,OW⟩:=hrel
  obtain ⟨sn,hsn⟩:∃sn,sn=zNa x i++el.f1.take k:=⟨_,rfl⟩
  have hsl2:sn.length≤2000000:=by
   have h1:=seen_len2 (fun j f hj hf=>(HP.1 j f hj hf).1.2.2.2) i (z3a _) HI.1
   have h2:=List.length_take_le k el.f1
   have h3:=HI.1
   have h4:=HI2.1
   rw [hsn,List.length_append]
   omega
  rw [←hsn] at HS
  have HSN:=zz hsn
  clear hsn
  obtain ⟨Av,cv,rfl⟩:=Kd.R_slice HS.1.row
  by_cases hk:k<el.f1.length
  ·have d1:decide ((k:Int)<(el.f1.length:Int))=true:=z6 zq9
   have d0:decide ((0:Int)≤(k:Int))=true:=z6 zq9
   have d2:((k:Int)<(el.f1.length:Int))=True:=eq_true zq9
   have d3:((0:Int)≤(k:Int))=True:=eq_true zq9
   cases gk with
   |zero=>exact absurd HQ2.1 zq9
   |succ k2=>
    obtain ⟨ap,hAp,pc⟩:=C_at KE.1 hk
    subst hAp
    obtain ⟨p,hp⟩:∃p,p=el.f1[k]:=⟨_,rfl⟩
    rw [←hp] at pc
    have HPK:=zz (show el.f1[k]?=some p from by rw [hp];exact List.getElem?_eq_getElem hk)
    clear hp
    replace pc:=zi pc HS.1.bel
    have KS:=zz (Kd.R_reads' HS.1.row).2.2
    by_cases hin:p∈sn
    ·have eS:hasB sn p=true:=z6 hin
     have HBF:=zz (bfalse HB.1 (fun hm=>((hm.2 i el HE.1).2 k p HPK.1).2.2 (by rw [←HSN.1];exact hin)))
     clear hin
     go_wp2_with (((with_reducible refine (hasI _ _ _ _ _ KS.1 hsl2).mono ?_);rintro e w1 ⟨rfl,rfl⟩;rw [eS]))
     go_ret
     exact ⟨rb HBF.1,HS.1.bel⟩
    ·have eS:hasB sn p=false:=z7 hin
     have HPG:=zz (show PgOk x (zNa x i) el.f1 k p from ⟨(HFO.1.1 k p HPK.1).1,(HFO.1.1 k p HPK.1).2,by rw [←HSN.1];exact hin⟩)
     clear hin
     go_wp2_with (first|((with_reducible refine (hasI _ _ _ _ _ KS.1 hsl2).mono ?_);rintro e w1 ⟨rfl,rfl⟩;rw [eS])|((with_reducible refine zea (b:= .append) (xs:= #[.tmp 79,.tmp 81]) rfl ?_);at_builtin;refine seen_app rfl (.tmp 79) (.tmp 81) rfl rfl rfl HS.1 BF.1 OW.1 hsl2 ?_;intro v1 w1 HS1 BF1 OW1))
     exact zq218
  ·have d1:decide ((k:Int)<(el.f1.length:Int))=false:=z7 zq9
   have hk2:k=el.f1.length:=zq51 HI2.1
   have hsn:sn=zNa x (i+1):=zq126
   have HSN2:=zz hsn
   have HK2:=zz hk2
   clear hsn hk2
   go_wp2
   go_roundg k1
   case measure=>omega
   case rel=>exact ⟨i+1,_,rfl,zq110,⟨zq115⟩,⟨zq9⟩,⟨fun j f hj hf=>by
    rcases Nat.lt_or_ge j i with h2|h2
    ·exact HP.1 j f h2 hf
    ·obtain rfl:j=i:=zq9
     have:=HE.1.symm.trans hf
     injection this with this
     subst this
     exact ⟨HFR.1,fun k p hp=>HP2.1 k p (by rw [HK2.1];exact (List.getElem?_eq_some_iff.1 hp).1) hp⟩⟩,⟨by rw [←HSN2.1];exact HS.1⟩⟩):P:=h
theorem zq149{P:Prop}(h:P:=by
 cases hq:p y with
 |true=>
  rw [hq] at hcall
  go_wp2_with fail
  ((with_reducible refine hcall.mono ?_);rintro e w' ⟨rfl,hb'⟩)
  go_wp2
  go_ret
  refine ⟨?_,hb'⟩
  rw [idxF_hit hlt (by rw [B.1];exact hq) A0.1]
  rfl
 |false=>
  rw [hq] at hcall
  go_wp2_with fail
  ((with_reducible refine hcall.mono ?_);rintro e w' ⟨rfl,hb'⟩)
  go_wp2
  go_roundg (xs.length-(kk+1))
  case measure=>omega
  case rel=>
   have hw:wrap64 ((kk:Int)+1)=((kk+1:Nat):Int):=by unfold wrap64;omega
   refine ⟨kk+1,zq9,zq9,by first|rfl|exact congrArg (Value.int .i64) hw,⟨hb'⟩,⟨fun j hj hjk=> ?_⟩⟩
   by_cases e:j=kk
   ·subst e
    rw [B.1];exact hq
   ·exact A0.1 j hj zq9):P:=h
theorem zq171{P:Prop}(h:P:=by
 repeat' first
 |(with_reducible exact ih0 _ _ _ _)
 |(with_reducible exact ih1 _ _ _ _ _)
 |(with_reducible exact LeO.refl _)
 |(with_reducible exact LeO.none _)
 |(with_reducible refine LeO.ite ?_ ?_)
 |(with_reducible refine LeO.bind ?_ (fun _=> ?_))
 |exact ih0 _ _ _ _
 |exact ih1 _ _ _ _ _):P:=h
theorem zq172{P:Prop}(h:P:=by
 go_wp2
 go_ret
 exact ⟨rfl,zo (z1a w.heap.size w) _⟩):P:=h
theorem zq173{P:Prop}(h:P:=by
 repeat' first
 |(with_reducible exact ih0 _ _ _)
 |(with_reducible exact ih1 _ _ _ _)
 |(with_reducible exact LeO.refl _)
 |(with_reducible exact LeO.none _)
 |(with_reducible refine LeO.ite ?_ ?_)
 |(with_reducible refine LeO.bind ?_ (fun _=> ?_))
 |exact ih0 _ _ _
 |exact ih1 _ _ _ _):P:=h
theorem zq194{P:Prop}(h:P:=by
 have H':=zz H
 clear H
 go_wp2
 go_roundg k2
 case measure=>have:=HK1.1;have:=HK2.1;omega
 case rel=>exact ⟨(x2),(wrap64 (x1+1)),zq18,zq18,H',⟨by have:=HK1.1;have:=HK2.1;omega⟩,zq33⟩):P:=h
theorem zq199{P:Prop}(h:P:=by
 have hltz:¬(kk:Int)<(xs.length:Int):=zq9
 have:kk=xs.length:=zq9
 subst this
 go_wp2
 go_ret
 refine ⟨?_,BW.1⟩
 rw [idxF_miss (fun j hj=>A0.1 j hj hj)]
 rfl):P:=h
end Go.Proofs
namespace Go.Proofs.YtonhdiemjgdcnaaGreat.PFnExactGivePage
open Go.RowKit Go.Proofs.YtonhdiemjgdcnaaGreatW.PrintWords Go.Proofs.YtonhdiemjgdcnaaGreatW.PrintLast Go.Proofs.YtonhdiemjgdcnaaGreatW.PrintMore
attribute [local go_sem] zma zla zwa zxa zba zca zoa zna
def IdxP (xs:List Int) (x:Int) (w:World) (e:Ending) (w':World):Prop:=∃r:Int,e= .returned (.int .i64 r)∧w=w'∧decide (0≤r)=hasB xs x
theorem idxI (xs:List Int) (x:Int) (A:Option Addr) (c:Nat) (w:World) (h:Kd.C (Kd.int .i64) w A xs.length xs) (hl:xs.length≤2000000):Calls Tryz.prog 120 #[.slice A xs.length c,.int .i64 x] w (IdxP xs x w):=by
 have H:=zz h
 clear h
 go_enter Tryz.func120,Tryz.ntmps120
 go_wp2
 go_loop [8] (fun v5=>∃i:Nat,v5= .int .i64 (i:Int)∧i≤xs.length∧Z0 (x∉xs.take i)) (fun v5=>xs.length-(intOf v5).toNat)
 case atStart=>exact ⟨0,rfl,z0b _,⟨by simp⟩⟩
 case round=>
  obtain ⟨i,rfl,hi,HN⟩:=hrel
  by_cases hlt:i<xs.length
  ·obtain ⟨ad,hA,hc⟩:=C_at H.1 hlt
   subst hA
   have c3:((0:Int)≤(i:Int))=True:=eq_true zq9
   have c2:((i:Int)<(xs.length:Int))=True:=eq_true zq9
   obtain ⟨y,hy⟩:∃y,y=xs[i]:=⟨_,rfl⟩
   rw [←hy] at hc
   have HY:=zz hy
   clear hy
   by_cases e:x=y
   ·have HE:=zz e
    have e1:(x==y)=true:=beq_iff_eq.2 e
    clear e
    go_wp2
    go_ret
    exact ⟨i,rfl,rfl,by rw [show hasB xs x=true from decide_eq_true (by rw [HE.1,HY.1];exact List.getElem_mem hlt)];exact z6 zq9⟩
   ·have e1:(x==y)=false:=beq_eq_false_iff_ne.2 e
    have HE:=zz e
    clear e
    go_wp2
    go_round
    case rel=>exact ⟨i+1,zq110,zq9,⟨by
     rw [List.take_succ_eq_append_getElem hlt,←HY.1]
     simp only [List.mem_append,List.mem_singleton,not_or]
     exact ⟨HN.1,fun h=>HE.1 h⟩⟩⟩
    case measure=>simp [intOf];omega
  ·have HI:=zz (show i=xs.length by omega)
   go_wp2
   go_ret
   exact ⟨-1,rfl,rfl,by rw [show hasB xs x=false from decide_eq_false (by have:=HN.1;rwa [HI.1,List.take_length] at this)];rfl⟩
theorem hasI (xs:List Int) (x:Int) (A:Option Addr) (c:Nat) (w:World) (h:Kd.C (Kd.int .i64) w A xs.length xs) (hl:xs.length≤2000000):Calls Tryz.prog 90 #[.slice A xs.length c,.int .i64 x] w fun e w'=>e= .returned (.bool (hasB xs x))∧w=w':=by
 have H:=zz h
 clear h
 go_enter Tryz.func90,Tryz.ntmps90
 go_wp2_with ((with_reducible refine (idxI xs x A c _ H.1 hl).mono ?_);rintro e w1 ⟨r,rfl,rfl,hr⟩;have HR:=zz hr;clear hr)
 go_ret
 exact ⟨rb HR.1,rfl⟩
def implMetaOk.T7:Bool×List (List Nat×List Nat):=(true,[([],[]),([],[]),([0,1],[0,1]),([2],[2]),([3,2],[3]),([4],[4]),([5,4],[4,5]),([6,4,4],[4,6]),([7],[7]),([8,7],[7,8]),([7],[7]),([10,7],[7,10]),([9,11,7],[7,9,11]),([12,7],[7,12]),([13,7],[7,13]),([7],[7]),([15,7],[7,15]),([14,16,7],[7,14,16]),([7,17,4],[4,7,17]),([4,18],[4,18])])
def implMetaOk.B7:List Nat:=[0,0,3,7,15,31,63,127,255,511,255,1279,4095,8191,16383,255,33023,131071,262143,524287]
theorem implMetaOk.ok7_0:regB (zFa Tryz.f123 7) implMetaOk.T7 implMetaOk.B7 [] [.t 0,.t 1,.e 2,.p 3,.p 4,.p 5,.p 6,.p 7,.p 8,.p 9,.p 10,.p 11,.p 12,.p 13,.p 14,.p 15,.p 16,.p 17,.p 18,.p 19]=true:=zq13
theorem implMetaOk.ok7_1:regB (zFa Tryz.f123 7) implMetaOk.T7 implMetaOk.B7 [] [.t 0,.t 1,.e 2,.p 3,.p 4,.p 5,.p 6,.p 7,.p 8,.t 9,.p 10,.p 11,.p 12,.p 13,.t 14,.p 15,.t 16,.p 17,.p 18,.p 19]=true:=zq13
theorem fi_ways (x:S40) (i:Nat) (f:S112) (b:Bool) (hb:b=true↔MOk x) (hi:x.f3[i]?=some f):∃fb:Bool,(fb=true↔FreeOk f x)∧
  ((false=b∧(fb=false∨(fb=true∧∃p,x.f3[i-1]?=some p∧0<i∧f.f0≤p.f0)))∨(FrHead x i f∧FreeOk f x∧fb=true∧(i=0∨∃p,x.f3[i-1]?=some p∧0<i∧¬f.f0≤p.f0))):=by
 have hilt:=(List.getElem?_eq_some_iff.1 hi).1
 by_cases hf:FreeOk f x
 ·refine ⟨true,by simp [hf],?_⟩
  have nb:¬FrHead x i f→false=b:=fun h=>bfalse hb (fun hm=>h (hm.2 i f hi).1)
  by_cases hz:i=0
  ·exact .inr ⟨⟨hf.2.1,fun g h0 _=>absurd h0 zq9,hf.2.2⟩,hf,rfl,.inl hz⟩
  ·have hp:x.f3[i-1]?=some (x.f3[i-1]'zq9):=List.getElem?_eq_getElem zq9
   by_cases h2:f.f0≤(x.f3[i-1]'zq9).f0
   ·exact .inl ⟨nb (fun h=>by have:=h.2.1 _ zq9 hp;omega),.inr ⟨rfl,_,hp,zq9,h2⟩⟩
   ·exact .inr ⟨⟨hf.2.1,fun g _ hg=>by rw [hp] at hg;injection hg with hg;subst hg;omega,hf.2.2⟩,hf,rfl,.inr ⟨_,hp,zq9,h2⟩⟩
 ·refine ⟨false,by simp [hf],.inl ⟨bfalse hb (fun hm=>hf ?_),.inl rfl⟩⟩
  obtain ⟨h1,h2⟩:=hm.2 i f hi
  exact ⟨fun k p hk=>⟨(h2 k p hk).1,(h2 k p hk).2.1⟩,h1.1,h1.2.2⟩
theorem implMetaOk_c (x:S40) (b:Bool) {cs:List Value} (w:World) (h:k40.K w x cs) (hb:b=true↔MOk x):
  Calls Tryz.prog 123 #[.agg cs.toArray] w fun e w'=>e= .returned (.bool b)∧Below w.heap.size w w':=by
 obtain ⟨AF,cF,rfl,mF,rF⟩:=zEa h
 have KR:=zz rF
 have HB:=zz hb
 have bn:=rF.2.1
 have hbl:=zz (zo (z1a w.heap.size w) (.cells #[.int .i64 x.f0,.int .i64 x.f1,.int .i64 x.f2,.slice AF x.f3.length cF] 40))
 clear h mF rF hb
 by_cases hh:MHead x
 ·obtain ⟨h0,h2,h1,hl⟩:=hh
  have HH:=zz (show MHead x from ⟨h0,h2,h1,hl⟩)
  have e0:=znb h0
  have e2:=znb h2
  have bl:(20<(x.f3.length:Int))=False:=eq_false zq9
  obtain ⟨h2a,h2b⟩:=h2
  clear h0
  have hv:((x.f1 !=0)=false∧(x.f1==0)=true)∨((x.f1 !=0)=true∧(x.f1==0)=false∧inB x.f1 2 (x.f2-1)=true):=by
   rcases h1 with h1|h1
   ·exact .inl (by simp [h1])
   ·exact .inr ⟨zq117,zq117,znb h1⟩
  clear h1
  rcases hv with ⟨e1,e1'⟩|⟨e1,e1',e1''⟩
  all_goals
   go_enter Tryz.func123,Tryz.ntmps123
   go_wp2_with (((with_reducible refine (inI _ _ _ _).mono ?_);rintro e w1 ⟨rfl,rfl⟩))
   have H0:=zz (seen0 x [.int .i64 x.f0,.int .i64 x.f1,.int .i64 x.f2,.slice AF x.f3.length cF] w)
   go_loopg [3,44] (x.f3.length+1) (fun kq v3 v4 w'=>∃(i:Nat) (v:Value),v3=v∧v4= .int .i64 (i:Int)∧Z0 (kq+i=x.f3.length+1)∧Z0 (i≤x.f3.length)∧Z0 (∀(j:Nat) (f:S112),j<i→x.f3[j]?=some f→FrHead x j f∧FrPages x j f)∧Z0 (SeenAt w w' [.int .i64 x.f0,.int .i64 x.f1,.int .i64 x.f2,.slice AF x.f3.length cF] (zNa x i) v))
   case atStart=>exact ⟨0,_,rfl,rfl,⟨zq9⟩,⟨z0b _⟩,⟨fun j f h=>absurd h (Nat.not_lt_zero _)⟩,H0⟩
   case round=>
    clear H0 e0 e1 e1' e2 bl hbl
    obtain ⟨i,v,rfl,rfl,HQ,HI,HP,HS⟩:=hrel
    by_cases hlt:i<x.f3.length
    ·have c1:decide ((i:Int)<(x.f3.length:Int))=true:=z6 zq9
     have c0:decide ((0:Int)≤(i:Int))=true:=z6 zq9
     have c2:((i:Int)<(x.f3.length:Int))=True:=eq_true zq9
     have c3:((0:Int)≤(i:Int))=True:=eq_true zq9
     cases gk with
     |zero=>exact absurd HQ.1 zq9
     |succ k1=>
      obtain ⟨ad,A1,c11,hA,z0,z1,hl4,hC4⟩:=zxb KR.1 (i:Int) zq9 zq9
      subst hA
      obtain ⟨el,hel⟩:∃el,el=zF x.f3 (i:Int):=⟨_,rfl⟩
      have hel2:x.f3[i]?=some el:=zq72
      rw [←hel] at z0 z1 hl4 hC4
      simp only [Int.toNat_natCast] at z0 z1
      replace z0:=(HS.1.bel.cell (z0a w _ z0)).trans z0
      replace z1:=(HS.1.bel.cell (z0a w _ z1)).trans z1
      have HE:=zz hel2
      have KE:=zz hC4
      have be:el.f1.length≤9223372036854775807:=hC4.2.1
      have hz:=zP HS.1.box
      clear hel hel2 hC4 hl4
      go_upto_region 7 with (fail)
      obtain ⟨W1,hW1⟩:∃W1,W1=wr.alloc (.cells #[.int .i64 el.f0,.slice A1 el.f1.length c11] 112):=⟨_,rfl⟩
      have BF:=zz (show W1.heap[wr.heap.size]?=some (.cells ([.int .i64 el.f0,.slice A1 el.f1.length c11]:List Value).toArray 112 (0,0)) from by rw [hW1];exact zqa wr _)
      have HB1:=zz (show Below wr.heap.size wr W1 from by rw [hW1];exact zo (z1a _ _) _)
      rw [←hW1]
      clear hW1 z0 z1
      obtain ⟨gF,hgF⟩:∃g,g=wr.heap.size:=⟨_,rfl⟩
      rw [←hgF] at BF hz ⊢
      have OW:=zz (show ∀k,u3.ownBlock=some k→k<gF from by rw [hgF];exact Kd.R_lt HS.1.row)
      replace HS:=zz (HS.1.step HB1.1)
      clear HB1 hgF
      have hp0:W1.cell? ⟨w.heap.size,0,none⟩=some (.int .i64 x.f0):=(zj HS.1.box 0).trans rfl
      have hp1:W1.cell? ⟨w.heap.size,1,none⟩=some (.int .i64 x.f1):=(zj HS.1.box 1).trans rfl
      have hp2:W1.cell? ⟨w.heap.size,2,none⟩=some (.int .i64 x.f2):=(zj HS.1.box 2).trans rfl
      have hp3:W1.cell? ⟨w.heap.size,3,none⟩=some (.slice (some ad) x.f3.length cF):=(zj HS.1.box 3).trans rfl
      have hf0:W1.cell? ⟨gF,0,none⟩=some (.int .i64 el.f0):=(zj BF.1 0).trans rfl
      have hf1:W1.cell? ⟨gF,1,none⟩=some (.slice A1 el.f1.length c11):=(zj BF.1 1).trans rfl
      obtain ⟨fb,hfb,hways⟩:=fi_ways x i el b HB.1 HE.1
      have HFB:=zz hfb
      clear hfb
      have KE1:=zz (Kd.C_below KE.1 HS.1.bel)
      rcases hways with ⟨hbf,hways⟩|⟨hFr,hFo,eT,hways⟩
      ·have HBF:=zz hbf
       clear hbf
       rcases hways with rfl|⟨rfl,p,hp,h0,hle⟩
       ·refine zMa implMetaOk.ok7_0 (S:=fun w'=>w'.cell? ⟨gF,0,none⟩=some (.int .i64 el.f0)∧w'.cell? ⟨gF,1,none⟩=some (.slice A1 el.f1.length c11)∧w'.cell? ⟨w.heap.size,0,none⟩=some (.int .i64 x.f0)∧w'.cell? ⟨w.heap.size,1,none⟩=some (.int .i64 x.f1)∧w'.cell? ⟨w.heap.size,2,none⟩=some (.int .i64 x.f2)∧w'.cell? ⟨w.heap.size,3,none⟩=some (.slice (some ad) x.f3.length cF)) zq13 (fun _ _ _ _ h=>h) ⟨zi hf0 (z1a _ _).drew,zi hf1 (z1a _ _).drew,zi hp0 (z1a _ _).drew,zi hp1 (z1a _ _).drew,zi hp2 (z1a _ _).drew,zi hp3 (z1a _ _).drew⟩ (fun hHeld=> ?_)
        iterate 2 (refine zbb (v:= ?_) (a':= ?_) rfl rfl (Or.inl ⟨zq22,by rintro w' ⟨s0,s1,s2,s3,s4,s5⟩;go_simp;with_reducible rfl⟩) zq3 ?_)
        refine zva rfl rfl Tryz.func146 zq13 rfl #[.agg #[.int .i64 el.f0,.slice A1 el.f1.length c11],.agg #[.int .i64 x.f0,.int .i64 x.f1,.int .i64 x.f2,.slice (some ad) x.f3.length cF]] zq22 rfl zq14 ?_
        with_reducible refine (freeOk_c el x false _ (Kd.C_below KE1.1 (z1a _ _).drew) HFB.1).mono ?_
        rintro e w2 ⟨rfl,hb⟩
        refine ⟨_,rfl,⟨zi (zi hf0 (z1a _ _).drew) hb,zi (zi hf1 (z1a _ _).drew) hb,zi (zi hp0 (z1a _ _).drew) hb,zi (zi hp1 (z1a _ _).drew) hb,zi (zi hp2 (z1a _ _).drew) hb,zi (zi hp3 (z1a _ _).drew) hb⟩,(fun hHeld=> ?_)⟩
        refine zha (a':= ?_) zq3 ?_
        iterate 2 (refine zpa (v:= ?_) (a':= ?_) rfl rfl (Or.inl ⟨zq22,zq12⟩) zq3 ?_)
        iterate 14 (refine zpa (v:=undef) (a':= ?_) rfl rfl (Or.inr ⟨zq22,rfl⟩) ?_ ?_;rotate_left;(· show Act.put _ (some _) _=_;simp only [Act.put,List.setIfInBounds_toArray,List.set_cons_zero,List.set_cons_succ,zKa,i32_w];try rfl))
        (refine zpa (v:= ?_) (a':= ?_) rfl rfl (Or.inl ⟨zq22,zq12⟩) zq3 ?_)
        refine zZa ?_
        go_wp2
        go_ret
        exact ⟨rb HBF.1,ze HS.1.bel (ze (z1a _ _).drew hb)⟩
       ·have q1:decide ((0:Int)<(i:Int))=true:=z6 zq9
        have q2:decide (0<i)=true:=z6 zq9
        have hs1:IntKind.i64.wrap ((i:Int)-1)=((i-1:Nat):Int):=zq100
        have hs2:(0:Int)≤((i-1:Nat):Int):=zq9
        have hs3:((i-1:Nat):Int)<(x.f3.length:Int):=zq9
        obtain ⟨ad2,hA2,zp⟩:=prev_at KR.1 hp
        injection hA2 with hA2
        subst hA2
        clear hp
        replace zp:=zi zp HS.1.bel
        have q3:decide (el.f0≤p.f0)=true:=z6 hle
        refine zMa implMetaOk.ok7_1 (S:=fun w'=>w'.cell? ⟨gF,0,none⟩=some (.int .i64 el.f0)∧w'.cell? ⟨gF,1,none⟩=some (.slice A1 el.f1.length c11)∧w'.cell? ⟨w.heap.size,0,none⟩=some (.int .i64 x.f0)∧w'.cell? ⟨w.heap.size,1,none⟩=some (.int .i64 x.f1)∧w'.cell? ⟨w.heap.size,2,none⟩=some (.int .i64 x.f2)∧w'.cell? ⟨w.heap.size,3,none⟩=some (.slice (some ad) x.f3.length cF)∧w'.cell? (ad.add ((i-1)*2))=some (.int .i64 p.f0)) zq13 (fun _ _ _ _ h=>h) ⟨zi hf0 (z1a _ _).drew,zi hf1 (z1a _ _).drew,zi hp0 (z1a _ _).drew,zi hp1 (z1a _ _).drew,zi hp2 (z1a _ _).drew,zi hp3 (z1a _ _).drew,zi zp (z1a _ _).drew⟩ (fun hHeld=> ?_)
        iterate 2 (refine zbb (v:= ?_) (a':= ?_) rfl rfl (Or.inl ⟨zq22,zq74⟩) zq3 ?_)
        refine zva rfl rfl Tryz.func146 zq13 rfl #[.agg #[.int .i64 el.f0,.slice A1 el.f1.length c11],.agg #[.int .i64 x.f0,.int .i64 x.f1,.int .i64 x.f2,.slice (some ad) x.f3.length cF]] zq22 rfl zq14 ?_
        with_reducible refine (freeOk_c el x true _ (Kd.C_below KE1.1 (z1a _ _).drew) HFB.1).mono ?_
        rintro e w2 ⟨rfl,hb⟩
        refine ⟨_,rfl,⟨zi (zi hf0 (z1a _ _).drew) hb,zi (zi hf1 (z1a _ _).drew) hb,zi (zi hp0 (z1a _ _).drew) hb,zi (zi hp1 (z1a _ _).drew) hb,zi (zi hp2 (z1a _ _).drew) hb,zi (zi hp3 (z1a _ _).drew) hb,zi (zi zp (z1a _ _).drew) hb⟩,(fun hHeld=> ?_)⟩
        refine zha (a':= ?_) zq3 ?_
        iterate 6 (refine zpa (v:= ?_) (a':= ?_) rfl rfl (Or.inl ⟨zq22,zq12⟩) zq3 ?_)
        (refine zbb (v:= ?_) (a':= ?_) rfl rfl (Or.inl ⟨zq22,zq74⟩) zq3 ?_)
        iterate 4 (refine zpa (v:= ?_) (a':= ?_) rfl rfl (Or.inl ⟨zq22,zq12⟩) zq3 ?_)
        (refine zbb (v:= ?_) (a':= ?_) rfl rfl (Or.inl ⟨zq22,zq74⟩) zq3 ?_)
        (refine zpa (v:= ?_) (a':= ?_) rfl rfl (Or.inl ⟨zq22,zq12⟩) zq3 ?_)
        (refine zbb (v:= ?_) (a':= ?_) rfl rfl (Or.inl ⟨zq22,zq74⟩) zq3 ?_)
        iterate 3 (refine zpa (v:= ?_) (a':= ?_) rfl rfl (Or.inl ⟨zq22,zq12⟩) zq3 ?_)
        refine zZa ?_
        go_wp2
        go_ret
        exact ⟨rb HBF.1,ze HS.1.bel (ze (z1a _ _).drew hb)⟩
      ·have HFR:=zz hFr
       have HFO:=zz hFo
       have hel1:el.f1.length≤40:=hFr.2.2.2
       subst eT
       clear hFr hFo
       rcases hways with hz0|⟨p,hp,h0,hle⟩
       rotate_left
       ·have q1:decide ((0:Int)<(i:Int))=true:=z6 zq9
        have q2:decide (0<i)=true:=z6 zq9
        have hs1:IntKind.i64.wrap ((i:Int)-1)=((i-1:Nat):Int):=zq100
        have hs2:(0:Int)≤((i-1:Nat):Int):=zq9
        have hs3:((i-1:Nat):Int)<(x.f3.length:Int):=zq9
        obtain ⟨ad2,hA2,zp⟩:=prev_at KR.1 hp
        injection hA2 with hA2
        subst hA2
        clear hp
        replace zp:=zi zp HS.1.bel
        have q3:decide (el.f0≤p.f0)=false:=z7 hle
        refine zMa implMetaOk.ok7_1 (S:=fun w'=>w'.cell? ⟨gF,0,none⟩=some (.int .i64 el.f0)∧w'.cell? ⟨gF,1,none⟩=some (.slice A1 el.f1.length c11)∧w'.cell? ⟨w.heap.size,0,none⟩=some (.int .i64 x.f0)∧w'.cell? ⟨w.heap.size,1,none⟩=some (.int .i64 x.f1)∧w'.cell? ⟨w.heap.size,2,none⟩=some (.int .i64 x.f2)∧w'.cell? ⟨w.heap.size,3,none⟩=some (.slice (some ad) x.f3.length cF)∧w'.cell? (ad.add ((i-1)*2))=some (.int .i64 p.f0)) zq13 (fun _ _ _ _ h=>h) ⟨zi hf0 (z1a _ _).drew,zi hf1 (z1a _ _).drew,zi hp0 (z1a _ _).drew,zi hp1 (z1a _ _).drew,zi hp2 (z1a _ _).drew,zi hp3 (z1a _ _).drew,zi zp (z1a _ _).drew⟩ (fun hHeld=> ?_)
        iterate 2 (refine zbb (v:= ?_) (a':= ?_) rfl rfl (Or.inl ⟨zq22,zq74⟩) zq3 ?_)
        refine zva rfl rfl Tryz.func146 zq13 rfl #[.agg #[.int .i64 el.f0,.slice A1 el.f1.length c11],.agg #[.int .i64 x.f0,.int .i64 x.f1,.int .i64 x.f2,.slice (some ad) x.f3.length cF]] zq22 rfl zq14 ?_
        with_reducible refine (freeOk_c el x true _ (Kd.C_below KE1.1 (z1a _ _).drew) HFB.1).mono ?_
        rintro e w2 ⟨rfl,hb⟩
        refine ⟨_,rfl,⟨zi (zi hf0 (z1a _ _).drew) hb,zi (zi hf1 (z1a _ _).drew) hb,zi (zi hp0 (z1a _ _).drew) hb,zi (zi hp1 (z1a _ _).drew) hb,zi (zi hp2 (z1a _ _).drew) hb,zi (zi hp3 (z1a _ _).drew) hb,zi (zi zp (z1a _ _).drew) hb⟩,(fun hHeld=> ?_)⟩
        refine zha (a':= ?_) zq3 ?_
        iterate 6 (refine zpa (v:= ?_) (a':= ?_) rfl rfl (Or.inl ⟨zq22,zq12⟩) zq3 ?_)
        (refine zbb (v:= ?_) (a':= ?_) rfl rfl (Or.inl ⟨zq22,zq74⟩) zq3 ?_)
        iterate 4 (refine zpa (v:= ?_) (a':= ?_) rfl rfl (Or.inl ⟨zq22,zq12⟩) zq3 ?_)
        (refine zbb (v:= ?_) (a':= ?_) rfl rfl (Or.inl ⟨zq22,zq74⟩) zq3 ?_)
        (refine zpa (v:= ?_) (a':= ?_) rfl rfl (Or.inl ⟨zq22,zq12⟩) zq3 ?_)
        (refine zbb (v:= ?_) (a':= ?_) rfl rfl (Or.inl ⟨zq22,zq74⟩) zq3 ?_)
        iterate 3 (refine zpa (v:= ?_) (a':= ?_) rfl rfl (Or.inl ⟨zq22,zq12⟩) zq3 ?_)
        refine zZa ?_
        clear zp
        exact zq141
       ·have q1:decide ((0:Int)<(i:Int))=false:=z7 zq9
        have q2:decide (0<i)=false:=z7 zq9
        clear hz0
        refine zMa implMetaOk.ok7_0 (S:=fun w'=>w'.cell? ⟨gF,0,none⟩=some (.int .i64 el.f0)∧w'.cell? ⟨gF,1,none⟩=some (.slice A1 el.f1.length c11)∧w'.cell? ⟨w.heap.size,0,none⟩=some (.int .i64 x.f0)∧w'.cell? ⟨w.heap.size,1,none⟩=some (.int .i64 x.f1)∧w'.cell? ⟨w.heap.size,2,none⟩=some (.int .i64 x.f2)∧w'.cell? ⟨w.heap.size,3,none⟩=some (.slice (some ad) x.f3.length cF)) zq13 (fun _ _ _ _ h=>h) ⟨zi hf0 (z1a _ _).drew,zi hf1 (z1a _ _).drew,zi hp0 (z1a _ _).drew,zi hp1 (z1a _ _).drew,zi hp2 (z1a _ _).drew,zi hp3 (z1a _ _).drew⟩ (fun hHeld=> ?_)
        iterate 2 (refine zbb (v:= ?_) (a':= ?_) rfl rfl (Or.inl ⟨zq22,by rintro w' ⟨s0,s1,s2,s3,s4,s5⟩;go_simp;with_reducible rfl⟩) zq3 ?_)
        refine zva rfl rfl Tryz.func146 zq13 rfl #[.agg #[.int .i64 el.f0,.slice A1 el.f1.length c11],.agg #[.int .i64 x.f0,.int .i64 x.f1,.int .i64 x.f2,.slice (some ad) x.f3.length cF]] zq22 rfl zq14 ?_
        with_reducible refine (freeOk_c el x true _ (Kd.C_below KE1.1 (z1a _ _).drew) HFB.1).mono ?_
        rintro e w2 ⟨rfl,hb⟩
        refine ⟨_,rfl,⟨zi (zi hf0 (z1a _ _).drew) hb,zi (zi hf1 (z1a _ _).drew) hb,zi (zi hp0 (z1a _ _).drew) hb,zi (zi hp1 (z1a _ _).drew) hb,zi (zi hp2 (z1a _ _).drew) hb,zi (zi hp3 (z1a _ _).drew) hb⟩,(fun hHeld=> ?_)⟩
        refine zha (a':= ?_) zq3 ?_
        iterate 5 (refine zpa (v:= ?_) (a':= ?_) rfl rfl (Or.inl ⟨zq22,zq12⟩) zq3 ?_)
        iterate 10 (refine zpa (v:=undef) (a':= ?_) rfl rfl (Or.inr ⟨zq22,rfl⟩) ?_ ?_;rotate_left;(· show Act.put _ (some _) _=_;simp only [Act.put,List.setIfInBounds_toArray,List.set_cons_zero,List.set_cons_succ,zKa,i32_w];try rfl))
        iterate 2 (refine zpa (v:= ?_) (a':= ?_) rfl rfl (Or.inl ⟨zq22,zq12⟩) zq3 ?_)
        refine zZa ?_
        exact zq141
    ·exact zq174
 ·have HBF:=zz (bfalse HB.1 (fun h=>hh h.1))
  rcases mh_ways x hh with e0|⟨e0,e2⟩|⟨⟨e0,e2,h2a,h2b⟩,⟨e1,e1',e1''⟩|⟨⟨e1,e1'⟩,bl⟩|⟨⟨e1,e1',e1''⟩,bl⟩⟩
  all_goals
   clear hh
   go_enter Tryz.func123,Tryz.ntmps123
   go_wp2_with (((with_reducible refine (inI _ _ _ _).mono ?_);rintro e w1 ⟨rfl,rfl⟩))
   go_ret
   exact ⟨rb HBF.1,hbl.out⟩
def spec_l02Four.f (a0:Int):Option (ByteArray):=some (strOfNums (([(a0/16777216)%256,(a0/65536)%256,(a0/256)%256,(a0)%256]:List Int)))
theorem spec_l02Four.calls (a0:Int) (r:ByteArray) (w:World) (h:spec_l02Four.f a0=some r):
  Calls Tryz.prog 115 #[.int .u32 a0] w fun e w'=>e= .returned (.string r)∧Below w.heap.size w w':=by
 have HB:=zz (z1a w.heap.size w)
 have H:(some (strOfNums (([(a0/16777216)%256,(a0/65536)%256,(a0/256)%256,(a0)%256]:List Int))))=some r:=h
 clear h
 obtain ⟨y0,i0⟩:∃y_:List Int,y_=(([(a0/16777216)%256,(a0/65536)%256,(a0/256)%256,(a0)%256]:List Int)):=⟨_,rfl⟩
 replace H:(some (strOfNums y0))=some r:=zq20
 have Y0:=zz i0
 clear i0
 obtain rfl:=z6a H
 go_enter Tryz.func115,Tryz.ntmps115
 go_wp2_with (first|((with_reducible refine zd (N:=14) rfl ?_);refine Kd.R_lit (Kd.int .u8) _ 5 ?hg (N:=14) ?hd (xs:=([(a0/16777216)%256,(a0/65536)%256,(a0/256)%256,(a0)%256]:List Int)) (inner:=[.int .u8 ((a0/16777216)%256),.int .u8 ((a0/65536)%256),.int .u8 ((a0/256)%256),.int .u8 ((a0)%256)]) (ok:=fun _=>True) (okp:=fun _=>True) ?hr ?hp (fun _ hk=>hk) trivial (z1a _ _) (z3a _) zq38 ?_;(case hd=>rfl);(case hg=>rfl);(case hr=>first|(go_simp;done)|(go_simp;rfl));(case hp=>exact (Reps.one (show Kd.M (Kd.int .u8) _ _ _ ((a0/16777216)%256) [.int .u8 ((a0/16777216)%256)] from rfl) (Reps.one (show Kd.M (Kd.int .u8) _ _ _ ((a0/65536)%256) [.int .u8 ((a0/65536)%256)] from rfl) (Reps.one (show Kd.M (Kd.int .u8) _ _ _ ((a0/256)%256) [.int .u8 ((a0/256)%256)] from rfl) (Reps.one (show Kd.M (Kd.int .u8) _ _ _ ((a0)%256) [.int .u8 ((a0)%256)] from rfl) (Reps.none _ _))))));intro v136 w2 ho3 hb hg_ hnew_;clear hg_ hnew_;(first|rw [←Y0.1] at ho3|(simp only [Int.reduceToNat] at ho3;rw [←Y0.1] at ho3));have O0:=zz (Kd.R_lower ho3 (zD zq0));replace HB:=zz (ze zq0 hb);clear hb ho3;have hcv4:=zYb (P:=Tryz.prog) Tryz.underlying141 Tryz.underlying5 Tryz.underlying9 (Kd.own_of_R O0.1)))
 go_ret
 exact ⟨zq16,zq0⟩
mutual
def spec_SumMore.l0:Nat→Int→ByteArray→Int→Option (Int)
 |0,_,_,_=>none
 |k+1,x0,x1,x5=>if x5<(x1.size:Int) then (if 0≤x5 then (spec_SumMore.l1 k (Go.bits .xor .u32 x0 ((bt x1 x5)%4294967296)) x1 x5 0) else (none)) else (some x0)
def spec_SumMore.l1:Nat→Int→ByteArray→Int→Int→Option (Int)
 |0,_,_,_,_=>none
 |k+1,x0,x1,x5,x6=>if x6<8 then (if (Int.tmod x0 2)=1 then (spec_SumMore.l1 k (Go.bits .xor .u32 ((Int.tdiv x0 2)%4294967296) 3558460437) x1 x5 (wrap64 (x6+1))) else (spec_SumMore.l1 k ((Int.tdiv x0 2)%4294967296) x1 x5 (wrap64 (x6+1)))) else (spec_SumMore.l0 k x0 x1 (wrap64 (x5+1)))
end
def spec_SumMore.f (k:Nat) (a0:Int) (a1:ByteArray):Option (Int):=spec_SumMore.l0 k a0 a1 0
theorem spec_SumMore.mono_l:∀k,(∀y0 y1 y2,LeO (spec_SumMore.l0 k y0 y1 y2) (spec_SumMore.l0 (k+1) y0 y1 y2))∧(∀y0 y1 y2 y3,LeO (spec_SumMore.l1 k y0 y1 y2 y3) (spec_SumMore.l1 (k+1) y0 y1 y2 y3))
 |0=>⟨fun _ _ _ r h=>by simp [spec_SumMore.l0] at h,fun _ _ _ _ r h=>by simp [spec_SumMore.l1] at h⟩
 |k+1=>by
  obtain ⟨ih0,ih1⟩:=spec_SumMore.mono_l k
  refine ⟨?_,?_⟩
  ·intro y0 y1 y2
   unfold spec_SumMore.l0
   exact zq173
  ·intro y0 y1 y2 y3
   unfold spec_SumMore.l1
   exact zq173
theorem spec_SumMore.mono:∀a0 a1 k,LeO (spec_SumMore.f k a0 a1) (spec_SumMore.f (k+1) a0 a1):=by
 intro a0 a1 k
 obtain ⟨ih0,ih1⟩:=spec_SumMore.mono_l k
 unfold spec_SumMore.f
 repeat' first
   |(with_reducible exact ih0 _ _ _)
   |(with_reducible exact ih1 _ _ _ _)
   |(with_reducible exact LeO.refl _)
   |(with_reducible exact LeO.none _)
   |(with_reducible refine LeO.ite ?_ ?_)
   |(with_reducible refine LeO.bind ?_ (fun _=> ?_))
   |exact ih0 _ _ _
   |exact ih1 _ _ _ _
theorem spec_SumMore.calls (k:Nat) (a0:Int) (a1:ByteArray) (r:Int) (w:World) (h:spec_SumMore.f k a0 a1=some r):
  Calls Tryz.prog 134 #[.int .u32 a0,.string a1] w fun e w'=>e= .returned (.int .u32 r)∧Drawn0 w w':=by
 have H:(spec_SumMore.l0 k a0 a1 0)=some r:=h
 clear h
 have H':=zz H
 clear H
 go_enter Tryz.func134,Tryz.ntmps134
 go_wp2
 go_loopg [0,5] k (fun kq v0 v5 w'=>∃(x0:Int) (x1:Int),v0= .int .u32 x0∧v5= .int .i64 x1∧Z0 (spec_SumMore.l0 kq x0 a1 x1=some r)∧Z0 (kq≤k)∧Drawn0 w w')
 case atStart=>exact ⟨(a0),(0),zq18,zq18,H',⟨z3a _⟩,zq33⟩
 case round=>
  clear H'
  obtain ⟨x0,x1,rfl,rfl,HA,HK1,⟨m1,rfl⟩⟩:=hrel
  cases gk with
  |zero=>exact absurd HA.1 (by simp [spec_SumMore.l0])
  |succ k1=>
   have H:=HA.1
   clear HA
   simp only [spec_SumMore.l0] at H
   by_cases c3:x1<(a1.size:Int)
   ·rw [if_pos c3] at H
    have c3b0:=z6 c3
    clear c3
    by_cases c4:0≤x1
    ·rw [if_pos c4] at H
     have c4b0:=z6 c4
     clear c4
     have H':=zz H
     clear H
     have p5:0≤(x1:Int):=z8 zq21
     have q5:x1<(a1.size:Int):=z8 zq21
     have hx5:=bt_at a1 x1
     replace p5:=eq_true p5
     replace q5:=eq_true q5
     go_wp2
     go_loopg [0,6] k1 (fun kq v0 v6 w'=>∃(x2:Int) (x3:Int),v0= .int .u32 x2∧v6= .int .i64 x3∧Z0 (spec_SumMore.l1 kq x2 a1 x1 x3=some r)∧Z0 (kq≤k1)∧Drawn0 w w')
     case atStart=>exact ⟨(Go.bits .xor .u32 x0 ((bt a1 x1)%4294967296)),(0),zq18,zq18,H',⟨z3a _⟩,zq33⟩
     case round=>
      clear H'
      try clear c3
      try clear c3b0
      try clear c4
      try clear c4b0
      try clear p5
      try clear q5
      try clear hx5
      try clear p5
      try clear q5
      obtain ⟨x2,x3,rfl,rfl,HA,HK2,⟨m2,rfl⟩⟩:=hrel
      cases gk with
      |zero=>exact absurd HA.1 (by simp [spec_SumMore.l1])
      |succ k2=>
       have H:=HA.1
       clear HA
       simp only [spec_SumMore.l1] at H
       by_cases c6:x3<8
       ·rw [if_pos c6] at H
        have c6b0:=z6 c6
        clear c6
        by_cases c7:(Int.tmod x2 2)=1
        ·rw [if_pos c7] at H
         have c7b0:((Int.tmod x2 2)==1)=true:=beq_iff_eq.mpr c7
         have c7b1:((Int.tmod x2 2) !=1)=false:=bne_eq_false_iff_eq.mpr c7
         clear c7
         have H':=zz H
         clear H
         go_wp2
         go_roundg k2
         case measure=>have:=HK1.1;have:=HK2.1;omega
         case rel=>exact ⟨(Go.bits .xor .u32 ((Int.tdiv x2 2)%4294967296) 3558460437),(wrap64 (x3+1)),zq18,zq18,H',⟨by have:=HK1.1;have:=HK2.1;omega⟩,zq33⟩
        ·rw [if_neg c7] at H
         have c7b0:((Int.tmod x2 2)==1)=false:=beq_eq_false_iff_ne.mpr c7
         have c7b1:((Int.tmod x2 2) !=1)=true:=bne_iff_ne.mpr c7
         have H':=zz H
         clear H
         go_wp2
         go_roundg k2
         case measure=>have:=HK1.1;have:=HK2.1;omega
         case rel=>exact ⟨((Int.tdiv x2 2)%4294967296),(wrap64 (x3+1)),zq18,zq18,H',⟨by have:=HK1.1;have:=HK2.1;omega⟩,zq33⟩
       ·rw [if_neg c6] at H
        have c6b0:=z7 c6
        clear c6
        exact zq194
    ·exact zq161
   ·exact zq154
def spec_SumOf.f (k:Nat) (a0:ByteArray):Option (Int):=(spec_SumMore.f k 4294967295 a0).bind fun t138=>(some t138)
theorem spec_SumOf.mono:∀a0 k,LeO (spec_SumOf.f k a0) (spec_SumOf.f (k+1) a0):=by
 intro a0 k
 unfold spec_SumOf.f
 repeat' first
   |(with_reducible exact spec_SumMore.mono _ _ _)
   |(with_reducible exact LeO.refl _)
   |(with_reducible exact LeO.none _)
   |(with_reducible refine LeO.ite ?_ ?_)
   |(with_reducible refine LeO.bind ?_ (fun _=> ?_))
   |exact spec_SumMore.mono _ _ _
theorem spec_SumOf.calls (k:Nat) (a0:ByteArray) (r:Int) (w:World) (h:spec_SumOf.f k a0=some r):
  Calls Tryz.prog 116 #[.string a0] w fun e w'=>e= .returned (.int .u32 r)∧Drawn0 w w':=by
 have H:((spec_SumMore.f k 4294967295 a0).bind fun t0=>(some t0))=some r:=h
 clear h
 replace H:=z2a H
 obtain ⟨t0,A0,H⟩:=H
 replace H:(some t0)=some r:=H
 have A2:=zz A0
 clear A0
 obtain rfl:=z6a H
 go_enter Tryz.func116,Tryz.ntmps116
 go_wp2_with (first|((with_reducible refine zr (f:=134) rfl ?_);refine zN (some 4) rfl rfl Tryz.func134 zq13 rfl #[.int .u32 4294967295,.string a0] rfl zq8 ?_;(with_reducible refine (spec_SumMore.calls k 4294967295 a0 t0 _ A2.1).mono ?_);rintro e w' ⟨rfl,⟨nd,rfl⟩⟩;refine ⟨_,rfl,?_⟩))
 go_ret
 exact ⟨zq18,zq33⟩
def spec_Sealed.f (k:Nat) (a0:ByteArray):Option (ByteArray×Bool):=if (a0.size:Int)>20000 then (some ((⟨#[]⟩:ByteArray),false)) else ((spec_SumOf.f k a0).bind fun t139=>((spec_l02Four.f t139).bind fun t140=>(if a0.size+t140.size≤9223372036854775807 then (some (a0++t140,true)) else (none))))
theorem spec_Sealed.mono:∀a0 k,LeO (spec_Sealed.f k a0) (spec_Sealed.f (k+1) a0):=by
 intro a0 k
 unfold spec_Sealed.f
 repeat' first
   |(with_reducible exact spec_SumOf.mono _ _)
   |(with_reducible exact LeO.refl _)
   |(with_reducible exact LeO.none _)
   |(with_reducible refine LeO.ite ?_ ?_)
   |(with_reducible refine LeO.bind ?_ (fun _=> ?_))
   |exact spec_SumOf.mono _ _
theorem spec_Sealed.calls (k:Nat) (a0:ByteArray) (r1:ByteArray) (r2:Bool) (w:World) (h:spec_Sealed.f k a0=some (r1,r2)):
  Calls Tryz.prog 82 #[.string a0] w fun e w'=>e= .returned (.tuple #[.string r1,.bool r2])∧Below w.heap.size w w':=by
 have HB:=zz (z1a w.heap.size w)
 have H:(if (a0.size:Int)>20000 then (some ((⟨#[]⟩:ByteArray),false)) else ((spec_SumOf.f k a0).bind fun t0=>((spec_l02Four.f t0).bind fun t1=>(if a0.size+t1.size≤9223372036854775807 then (some (a0++t1,true)) else (none)))))=some (r1,r2):=h
 clear h
 by_cases c2:(a0.size:Int)>20000
 ·rw [if_pos c2] at H
  have c2b0:decide (20000<(a0.size:Int))=true:=z6 c2
  have c2b1:decide (20000<a0.size)=true:=z6 zq9
  clear c2
  simp only [Option.some.injEq,Prod.mk.injEq] at H
  obtain ⟨rfl,rfl⟩:=H
  go_enter Tryz.func82,Tryz.ntmps82
  go_wp2
  go_ret2
  exact ⟨zq16,zq0⟩
 ·rw [if_neg c2] at H
  have c2b0:decide (20000<(a0.size:Int))=false:=z7 c2
  have c2b1:decide (20000<a0.size)=false:=z7 zq9
  clear c2
  replace H:=z2a H
  obtain ⟨t0,A0,H⟩:=H
  replace H:((spec_l02Four.f t0).bind fun t1=>(if a0.size+t1.size≤9223372036854775807 then (some (a0++t1,true)) else (none)))=some (r1,r2):=H
  have A3:=zz A0
  clear A0
  replace H:=z2a H
  obtain ⟨t1,A1,H⟩:=H
  replace H:(if a0.size+t1.size≤9223372036854775807 then (some (a0++t1,true)) else (none))=some (r1,r2):=H
  have A4:=zz A1
  clear A1
  by_cases c5:a0.size+t1.size≤9223372036854775807
  ·rw [if_pos c5] at H
   have c5b0:=eq_true c5
   have c5b1:=z6 c5
   try have c5b2:(9223372036854775807<a0.size+t1.size)=False:=eq_false (Nat.not_lt.2 c5)
   simp only [Option.some.injEq,Prod.mk.injEq] at H
   obtain ⟨rfl,rfl⟩:=H
   go_enter Tryz.func82,Tryz.ntmps82
   go_wp2_with (first|((with_reducible refine zr (f:=116) rfl ?_);refine zN (some 9) rfl rfl Tryz.func116 zq13 rfl #[.string a0] rfl zq8 ?_;(with_reducible refine (spec_SumOf.calls k a0 t0 _ A3.1).mono ?_);rintro e w' ⟨rfl,⟨nd,rfl⟩⟩;refine ⟨_,rfl,?_⟩)|((with_reducible refine zr (f:=115) rfl ?_);refine zN (some 10) rfl rfl Tryz.func115 zq13 rfl #[.int .u32 t0] rfl zq8 ?_;(with_reducible refine (spec_l02Four.calls t0 t1 _ A4.1).mono ?_);rintro e w6 ⟨rfl,hb⟩;refine ⟨_,rfl,?_⟩;replace HB:=zz (ze zq0 hb);(try clear hb);(try clear hb2);(try clear hk);(try clear hi)))
   go_ret2
   exact ⟨zq16,zq0⟩
  ·exact zq155
def spec_l01Var.l0:Nat→Int→List Int→Option (ByteArray)
 |0,_,_=>none
 |k+1,x0,x3=>if x0>127 then (if x3.length<140737488355328 then (spec_l01Var.l0 k (wrap64 (Int.tdiv x0 128)) (x3++[(wrap64 ((Int.tmod x0 128)+128))%256])) else (none)) else (if x3.length<140737488355328 then (some (strOfNums (x3++[(x0)%256]))) else (none))
def spec_l01Var.f (k:Nat) (a0:Int):Option (ByteArray):=spec_l01Var.l0 k a0 (([]:List Int))
theorem spec_l01Var.mono_l:∀k,(∀y0 y1,LeO (spec_l01Var.l0 k y0 y1) (spec_l01Var.l0 (k+1) y0 y1))
 |0=>fun _ _ r h=>by simp [spec_l01Var.l0] at h
 |k+1=>by
  have ih0:=spec_l01Var.mono_l k
  ·intro y0 y1
   unfold spec_l01Var.l0
   exact zq159
theorem spec_l01Var.mono:∀a0 k,LeO (spec_l01Var.f k a0) (spec_l01Var.f (k+1) a0):=by
 intro a0 k
 have ih0:=spec_l01Var.mono_l k
 unfold spec_l01Var.f
 exact zq156
theorem spec_l01Var.calls (k:Nat) (a0:Int) (r:ByteArray) (w:World) (h:spec_l01Var.f k a0=some r):
  Calls Tryz.prog 81 #[.int .i64 a0] w fun e w'=>e= .returned (.string r)∧Below w.heap.size w w':=by
 have HB:=zz (z1a w.heap.size w)
 have H:(spec_l01Var.l0 k a0 (([]:List Int)))=some r:=h
 clear h
 obtain ⟨y0,i0⟩:∃y_:List Int,y_=(([]:List Int)):=⟨_,rfl⟩
 replace H:(spec_l01Var.l0 k a0 y0)=some r:=zq20
 have Y0:=zz i0
 clear i0
 have H':=zz H
 clear H
 go_enter Tryz.func81,Tryz.ntmps81
 go_wp2_with (first|((with_reducible refine zd (N:=4) rfl ?_);refine Kd.R_lit (Kd.int .u8) _ 5 ?hg (N:=4) ?hd (xs:=([]:List Int)) (inner:=[]) (ok:=fun _=>True) (okp:=fun _=>True) ?hr ?hp (fun _ hk=>hk) trivial (z1a _ _) (z3a _) zq38 ?_;(case hd=>rfl);(case hg=>rfl);(case hr=>first|(go_simp;done)|(go_simp;rfl));(case hp=>exact (Reps.none _ _));intro v171 w2 ho3 hb hg_ hnew_;clear hg_ hnew_;(first|rw [←Y0.1] at ho3|(simp only [Int.reduceToNat] at ho3;rw [←Y0.1] at ho3));have O0:=zz (Kd.R_lower ho3 (zD zq0));replace HB:=zz (ze zq0 hb);clear hb ho3))
 go_loopg [0,3] k (fun kq v0 v3 w'=>∃(x0:Int) (x1:List Int),v0= .int .i64 x0∧Z0 (spec_l01Var.l0 kq x0 x1=some r)∧Z0 (kq≤k)∧Z0 (Kd.R (Kd.int .u8) 5 w' w.heap.size (fun _=>True) v3 x1)∧Z0 (Below w.heap.size w w'))
 case atStart=>exact ⟨(a0),(y0),zq18,H',⟨z3a _⟩,⟨by (with_reducible repeat (first|apply Kd.R_alloc|apply Kd.R_drewN|apply Kd.R_drew));exact O0.1⟩,⟨zq0⟩⟩
 case round=>
  clear H'
  obtain ⟨x0,x1,rfl,HA,HK1,O1,HB⟩:=hrel
  cases gk with
  |zero=>exact absurd HA.1 (by simp [spec_l01Var.l0])
  |succ k1=>
   have H:=HA.1
   clear HA
   simp only [spec_l01Var.l0] at H
   by_cases c4:x0>127
   ·rw [if_pos c4] at H
    have c4b0:decide (127<x0)=true:=z6 c4
    clear c4
    by_cases c5:x1.length<140737488355328
    ·rw [if_pos c5] at H
     have LMc5:=zz c5
     clear c5
     obtain ⟨y1,i1⟩:∃y_:List Int,y_=(x1++[(wrap64 ((Int.tmod x0 128)+128))%256]):=⟨_,rfl⟩
     replace H:(spec_l01Var.l0 k1 (wrap64 (Int.tdiv x0 128)) y1)=some r:=zq34
     have Y1:=zz i1
     clear i1
     have H':=zz H
     clear H
     go_wp2_with (first|((with_reducible refine zea (b:= .append) (xs:= #[.tmp 7,.tmp 12]) rfl ?_);at_builtin;refine Kd.R_append (Kd.int .u8) (w0:=w) w.heap.size rfl (.tmp 7) (.tmp 12) 141 5 (.int .u8 0) 1 rfl Tryz.underlying141 info5 rfl zq31 zq9 u3 x1 ((wrap64 ((Int.tmod x0 128)+128))%256) [.int .u8 ((wrap64 ((Int.tmod x0 128)+128))%256)] (fun _=>True) (fun _=>False) rfl rfl ?aP (fun _ hk=>hk.elim) ?aF ?aO ?aB ?aS ?aL ?_;(case aP=>exact rfl);(case aB=>exact zq0);(case aF=>exact (fun _ _=>trivial));(case aO=>exact (zq17 O1.1));(case aS=>exact (zD zq0));(case aL=>have:=LMc5.1;omega);intro v174 w6 ho hb hg hat;rw [←Y1.1] at ho;have O2:=zz ho;replace HB:=zz hb;clear O1;clear ho hb hg hat))
     go_roundg k1
     case measure=>have:=HK1.1;omega
     case rel=>exact ⟨(wrap64 (Int.tdiv x0 128)),(y1),zq18,H',⟨zq51 HK1.1⟩,⟨by (with_reducible repeat (first|apply Kd.R_alloc|apply Kd.R_drewN|apply Kd.R_drew));exact O2.1⟩,⟨zq0⟩⟩
    ·exact zq155
   ·rw [if_neg c4] at H
    have c4b0:decide (127<x0)=false:=z7 c4
    clear c4
    by_cases c7:x1.length<140737488355328
    ·rw [if_pos c7] at H
     have LMc7:=zz c7
     clear c7
     obtain ⟨y2,i2⟩:∃y_:List Int,y_=(x1++[(x0)%256]):=⟨_,rfl⟩
     replace H:(some (strOfNums y2))=some r:=zq52
     have Y2:=zz i2
     clear i2
     obtain rfl:=z6a H
     go_wp2_with (first|((with_reducible refine zea (b:= .append) (xs:= #[.tmp 16,.tmp 19]) rfl ?_);at_builtin;refine Kd.R_append (Kd.int .u8) (w0:=w) w.heap.size rfl (.tmp 16) (.tmp 19) 141 5 (.int .u8 0) 1 rfl Tryz.underlying141 info5 rfl zq31 zq9 u3 x1 ((x0)%256) [.int .u8 ((x0)%256)] (fun _=>True) (fun _=>False) rfl rfl ?aP (fun _ hk=>hk.elim) ?aF ?aO ?aB ?aS ?aL ?_;(case aP=>exact rfl);(case aB=>exact zq0);(case aF=>exact (fun _ _=>trivial));(case aO=>exact (zq17 O1.1));(case aS=>exact (zD zq0));(case aL=>have:=LMc7.1;omega);intro v177 w8 ho hb hg hat;rw [←Y2.1] at ho;have O3:=zz ho;replace HB:=zz hb;clear O1;clear ho hb hg hat;have hcv9:=zYb (P:=Tryz.prog) Tryz.underlying141 Tryz.underlying5 Tryz.underlying9 (Kd.own_of_R O3.1)))
     go_ret
     exact ⟨zq16,zq0⟩
    ·exact zq176
mutual
def impl_SumMore.l0:Nat→Int→ByteArray→Int→Int→Option (Int)
 |0,_,_,_,_=>none
 |k+1,x0,x1,x8,x9=>if x9<x8 then (if 0≤x9 then (if x9<(x1.size:Int) then (impl_SumMore.l1 k (Go.bits .xor .u32 x0 ((bt x1 x9)%4294967296)) x1 x8 x9 0) else (none)) else (none)) else (some x0)
def impl_SumMore.l1:Nat→Int→ByteArray→Int→Int→Int→Option (Int)
 |0,_,_,_,_,_=>none
 |k+1,x0,x1,x8,x9,x18=>if x18<8 then (if (Go.bits .and .u32 x0 1)=1 then (impl_SumMore.l1 k (Go.bits .xor .u32 (x0/2) 3558460437) x1 x8 x9 (wrap64 (x18+1))) else (impl_SumMore.l1 k (x0/2) x1 x8 x9 (wrap64 (x18+1)))) else (impl_SumMore.l0 k x0 x1 x8 (wrap64 (x9+1)))
end
def impl_SumMore.f (k:Nat) (a0:Int) (a1:ByteArray):Option (Int):=impl_SumMore.l0 k a0 a1 (a1.size:Int) 0
theorem impl_SumMore.mono_l:∀k,(∀y0 y1 y2 y3,LeO (impl_SumMore.l0 k y0 y1 y2 y3) (impl_SumMore.l0 (k+1) y0 y1 y2 y3))∧(∀y0 y1 y2 y3 y4,LeO (impl_SumMore.l1 k y0 y1 y2 y3 y4) (impl_SumMore.l1 (k+1) y0 y1 y2 y3 y4))
 |0=>⟨fun _ _ _ _ r h=>by simp [impl_SumMore.l0] at h,fun _ _ _ _ _ r h=>by simp [impl_SumMore.l1] at h⟩
 |k+1=>by
  obtain ⟨ih0,ih1⟩:=impl_SumMore.mono_l k
  refine ⟨?_,?_⟩
  ·intro y0 y1 y2 y3
   unfold impl_SumMore.l0
   exact zq171
  ·intro y0 y1 y2 y3 y4
   unfold impl_SumMore.l1
   exact zq171
theorem impl_SumMore.mono:∀a0 a1 k,LeO (impl_SumMore.f k a0 a1) (impl_SumMore.f (k+1) a0 a1):=by
 intro a0 a1 k
 obtain ⟨ih0,ih1⟩:=impl_SumMore.mono_l k
 unfold impl_SumMore.f
 repeat' first
   |(with_reducible exact ih0 _ _ _ _)
   |(with_reducible exact ih1 _ _ _ _ _)
   |(with_reducible exact LeO.refl _)
   |(with_reducible exact LeO.none _)
   |(with_reducible refine LeO.ite ?_ ?_)
   |(with_reducible refine LeO.bind ?_ (fun _=> ?_))
   |exact ih0 _ _ _ _
   |exact ih1 _ _ _ _ _
theorem impl_SumMore.calls (k:Nat) (a0:Int) (a1:ByteArray) (r:Int) (w:World) (h:impl_SumMore.f k a0 a1=some r):
  Calls Tryz.prog 156 #[.int .u32 a0,.string a1] w fun e w'=>e= .returned (.int .u32 r)∧Drawn0 w w':=by
 have H:(impl_SumMore.l0 k a0 a1 (a1.size:Int) 0)=some r:=h
 clear h
 have H':=zz H
 clear H
 go_enter Tryz.func156,Tryz.ntmps156
 go_wp2
 go_loopg [0,9] k (fun kq v0 v9 w'=>∃(x0:Int) (x1:Int),v0= .int .u32 x0∧v9= .int .i64 x1∧Z0 (impl_SumMore.l0 kq x0 a1 (a1.size:Int) x1=some r)∧Z0 (kq≤k)∧Drawn0 w w')
 case atStart=>exact ⟨(a0),(0),zq18,zq18,H',⟨z3a _⟩,zq33⟩
 case round=>
  clear H'
  obtain ⟨x0,x1,rfl,rfl,HA,HK1,⟨m1,rfl⟩⟩:=hrel
  cases gk with
  |zero=>exact absurd HA.1 (by simp [impl_SumMore.l0])
  |succ k1=>
   have H:=HA.1
   clear HA
   simp only [impl_SumMore.l0] at H
   by_cases c3:x1<(a1.size:Int)
   ·rw [if_pos c3] at H
    have c3b0:=z6 c3
    clear c3
    by_cases c4:0≤x1
    ·rw [if_pos c4] at H
     have c4b0:=z6 c4
     clear c4
     by_cases c5:x1<(a1.size:Int)
     ·rw [if_pos c5] at H
      have c5b0:=z6 c5
      clear c5
      have H':=zz H
      clear H
      have p6:0≤(x1:Int):=z8 zq21
      have q6:x1<(a1.size:Int):=z8 zq21
      have hx6:=bt_at a1 x1
      replace p6:=eq_true p6
      replace q6:=eq_true q6
      go_wp2
      go_loopg [0,18] k1 (fun kq v0 v1 w'=>∃(x2:Int) (x3:Int),v0= .int .u32 x2∧v1= .int .i64 x3∧Z0 (impl_SumMore.l1 kq x2 a1 (a1.size:Int) x1 x3=some r)∧Z0 (kq≤k1)∧Drawn0 w w')
      case atStart=>exact ⟨(Go.bits .xor .u32 x0 ((bt a1 x1)%4294967296)),(0),zq18,zq18,H',⟨z3a _⟩,zq33⟩
      case round=>
       clear H'
       try clear c3
       try clear c3b0
       try clear c4
       try clear c4b0
       try clear c5
       try clear c5b0
       try clear p6
       try clear q6
       try clear hx6
       try clear p6
       try clear q6
       obtain ⟨x2,x3,rfl,rfl,HA,HK2,⟨m2,rfl⟩⟩:=hrel
       cases gk with
       |zero=>exact absurd HA.1 (by simp [impl_SumMore.l1])
       |succ k2=>
        have H:=HA.1
        clear HA
        simp only [impl_SumMore.l1] at H
        by_cases c7:x3<8
        ·rw [if_pos c7] at H
         have c7b0:=z6 c7
         clear c7
         by_cases c8:(Go.bits .and .u32 x2 1)=1
         ·rw [if_pos c8] at H
          have c8b0:((Go.bits .and .u32 x2 1)==1)=true:=beq_iff_eq.mpr c8
          have c8b1:((Go.bits .and .u32 x2 1) !=1)=false:=bne_eq_false_iff_eq.mpr c8
          clear c8
          have H':=zz H
          clear H
          go_wp2
          go_roundg k2
          case measure=>have:=HK1.1;have:=HK2.1;omega
          case rel=>exact ⟨(Go.bits .xor .u32 (x2/2) 3558460437),(wrap64 (x3+1)),zq18,zq18,H',⟨by have:=HK1.1;have:=HK2.1;omega⟩,zq33⟩
         ·rw [if_neg c8] at H
          have c8b0:((Go.bits .and .u32 x2 1)==1)=false:=beq_eq_false_iff_ne.mpr c8
          have c8b1:((Go.bits .and .u32 x2 1) !=1)=true:=bne_iff_ne.mpr c8
          have H':=zz H
          clear H
          go_wp2
          go_roundg k2
          case measure=>have:=HK1.1;have:=HK2.1;omega
          case rel=>exact ⟨(x2/2),(wrap64 (x3+1)),zq18,zq18,H',⟨by have:=HK1.1;have:=HK2.1;omega⟩,zq33⟩
        ·rw [if_neg c7] at H
         have c7b0:=z7 c7
         clear c7
         exact zq194
     ·exact zq155
    ·exact zq161
   ·exact zq154
def impl_SumOf.f (k:Nat) (a0:ByteArray):Option (Int):=(impl_SumMore.f k 4294967295 a0).bind fun t459=>(some t459)
theorem impl_SumOf.mono:∀a0 k,LeO (impl_SumOf.f k a0) (impl_SumOf.f (k+1) a0):=by
 intro a0 k
 unfold impl_SumOf.f
 repeat' first
   |(with_reducible exact impl_SumMore.mono _ _ _)
   |(with_reducible exact LeO.refl _)
   |(with_reducible exact LeO.none _)
   |(with_reducible refine LeO.ite ?_ ?_)
   |(with_reducible refine LeO.bind ?_ (fun _=> ?_))
   |exact impl_SumMore.mono _ _ _
theorem impl_SumOf.calls (k:Nat) (a0:ByteArray) (r:Int) (w:World) (h:impl_SumOf.f k a0=some r):
  Calls Tryz.prog 147 #[.string a0] w fun e w'=>e= .returned (.int .u32 r)∧Drawn0 w w':=by
 have H:((impl_SumMore.f k 4294967295 a0).bind fun t0=>(some t0))=some r:=h
 clear h
 replace H:=z2a H
 obtain ⟨t0,A0,H⟩:=H
 replace H:(some t0)=some r:=H
 have A2:=zz A0
 clear A0
 obtain rfl:=z6a H
 go_enter Tryz.func147,Tryz.ntmps147
 go_wp2_with (first|((with_reducible refine zr (f:=156) rfl ?_);refine zN (some 4) rfl rfl Tryz.func156 zq13 rfl #[.int .u32 4294967295,.string a0] rfl zq8 ?_;(with_reducible refine (impl_SumMore.calls k 4294967295 a0 t0 _ A2.1).mono ?_);rintro e w' ⟨rfl,⟨nd,rfl⟩⟩;refine ⟨_,rfl,?_⟩))
 go_ret
 exact ⟨zq18,zq33⟩
def impl_seal.f (k:Nat) (a0:ByteArray):Option (ByteArray):=(impl_SumOf.f k a0).bind fun t460=>(some (strOfNums (([(t460/16777216)%256,(t460/65536)%256,(t460/256)%256,(t460)%256]:List Int))))
theorem impl_seal.mono:∀a0 k,LeO (impl_seal.f k a0) (impl_seal.f (k+1) a0):=by
 intro a0 k
 unfold impl_seal.f
 repeat' first
   |(with_reducible exact impl_SumOf.mono _ _)
   |(with_reducible exact LeO.refl _)
   |(with_reducible exact LeO.none _)
   |(with_reducible refine LeO.ite ?_ ?_)
   |(with_reducible refine LeO.bind ?_ (fun _=> ?_))
   |exact impl_SumOf.mono _ _
theorem impl_seal.calls (k:Nat) (a0:ByteArray) (r:ByteArray) (w:World) (h:impl_seal.f k a0=some r):
  Calls Tryz.prog 125 #[.string a0] w fun e w'=>e= .returned (.string r)∧Below w.heap.size w w':=by
 have HB:=zz (z1a w.heap.size w)
 have H:((impl_SumOf.f k a0).bind fun t0=>(some (strOfNums (([(t0/16777216)%256,(t0/65536)%256,(t0/256)%256,(t0)%256]:List Int)))))=some r:=h
 clear h
 replace H:=z2a H
 obtain ⟨t0,A0,H⟩:=H
 replace H:(some (strOfNums (([(t0/16777216)%256,(t0/65536)%256,(t0/256)%256,(t0)%256]:List Int))))=some r:=H
 have A2:=zz A0
 clear A0
 obtain ⟨y0,i0⟩:∃y_:List Int,y_=(([(t0/16777216)%256,(t0/65536)%256,(t0/256)%256,(t0)%256]:List Int)):=⟨_,rfl⟩
 replace H:(some (strOfNums y0))=some r:=zq20
 have Y0:=zz i0
 clear i0
 obtain rfl:=z6a H
 go_enter Tryz.func125,Tryz.ntmps125
 go_wp2_with (first|((with_reducible refine zr (f:=147) rfl ?_);refine zN (some 5) rfl rfl Tryz.func147 zq13 rfl #[.string a0] rfl zq8 ?_;(with_reducible refine (impl_SumOf.calls k a0 t0 _ A2.1).mono ?_);rintro e w' ⟨rfl,⟨nd,rfl⟩⟩;refine ⟨_,rfl,?_⟩)|((with_reducible refine zd (N:=17) rfl ?_);refine Kd.R_lit (Kd.int .u8) _ 5 ?hg (N:=17) ?hd (xs:=([(t0/16777216)%256,(t0/65536)%256,(t0/256)%256,(t0)%256]:List Int)) (inner:=[.int .u8 ((t0/16777216)%256),.int .u8 ((t0/65536)%256),.int .u8 ((t0/256)%256),.int .u8 ((t0)%256)]) (ok:=fun _=>True) (okp:=fun _=>True) ?hr ?hp (fun _ hk=>hk) trivial (z1a _ _) (z3a _) zq38 ?_;(case hd=>rfl);(case hg=>rfl);(case hr=>first|(go_simp;done)|(go_simp;rfl));(case hp=>exact (Reps.one (show Kd.M (Kd.int .u8) _ _ _ ((t0/16777216)%256) [.int .u8 ((t0/16777216)%256)] from rfl) (Reps.one (show Kd.M (Kd.int .u8) _ _ _ ((t0/65536)%256) [.int .u8 ((t0/65536)%256)] from rfl) (Reps.one (show Kd.M (Kd.int .u8) _ _ _ ((t0/256)%256) [.int .u8 ((t0/256)%256)] from rfl) (Reps.one (show Kd.M (Kd.int .u8) _ _ _ ((t0)%256) [.int .u8 ((t0)%256)] from rfl) (Reps.none _ _))))));intro v462 w3 ho4 hb hg_ hnew_;clear hg_ hnew_;(first|rw [←Y0.1] at ho4|(simp only [Int.reduceToNat] at ho4;rw [←Y0.1] at ho4));have O0:=zz (Kd.R_lower ho4 (zD zq0));replace HB:=zz (ze zq0 hb);clear hb ho4;have hcv5:=zYb (P:=Tryz.prog) Tryz.underlying141 Tryz.underlying5 Tryz.underlying9 (Kd.own_of_R O0.1)))
 go_ret
 exact ⟨zq16,zq0⟩
def impl_varText.l0:Nat→Int→List Int→Option (ByteArray)
 |0,_,_=>none
 |k+1,x0,x3=>if x0>127 then (if x3.length<140737488355328 then (impl_varText.l0 k (x0/128) (x3++[(Go.bits .or .i64 (Go.bits .and .i64 x0 127) 128)%256])) else (none)) else (if x3.length<140737488355328 then (some (strOfNums (x3++[(x0)%256]))) else (none))
def impl_varText.f (k:Nat) (a0:Int):Option (ByteArray):=impl_varText.l0 k a0 (([]:List Int))
theorem impl_varText.mono_l:∀k,(∀y0 y1,LeO (impl_varText.l0 k y0 y1) (impl_varText.l0 (k+1) y0 y1))
 |0=>fun _ _ r h=>by simp [impl_varText.l0] at h
 |k+1=>by
  have ih0:=impl_varText.mono_l k
  ·intro y0 y1
   unfold impl_varText.l0
   exact zq159
theorem impl_varText.mono:∀a0 k,LeO (impl_varText.f k a0) (impl_varText.f (k+1) a0):=by
 intro a0 k
 have ih0:=impl_varText.mono_l k
 unfold impl_varText.f
 exact zq156
theorem impl_varText.calls (k:Nat) (a0:Int) (r:ByteArray) (w:World) (h:impl_varText.f k a0=some r):
  Calls Tryz.prog 124 #[.int .i64 a0] w fun e w'=>e= .returned (.string r)∧Below w.heap.size w w':=by
 have HB:=zz (z1a w.heap.size w)
 have H:(impl_varText.l0 k a0 (([]:List Int)))=some r:=h
 clear h
 obtain ⟨y0,i0⟩:∃y_:List Int,y_=(([]:List Int)):=⟨_,rfl⟩
 replace H:(impl_varText.l0 k a0 y0)=some r:=zq20
 have Y0:=zz i0
 clear i0
 have H':=zz H
 clear H
 go_enter Tryz.func124,Tryz.ntmps124
 go_wp2_with (first|((with_reducible refine zd (N:=4) rfl ?_);refine Kd.R_lit (Kd.int .u8) _ 5 ?hg (N:=4) ?hd (xs:=([]:List Int)) (inner:=[]) (ok:=fun _=>True) (okp:=fun _=>True) ?hr ?hp (fun _ hk=>hk) trivial (z1a _ _) (z3a _) zq38 ?_;(case hd=>rfl);(case hg=>rfl);(case hr=>first|(go_simp;done)|(go_simp;rfl));(case hp=>exact (Reps.none _ _));intro v427 w2 ho3 hb hg_ hnew_;clear hg_ hnew_;(first|rw [←Y0.1] at ho3|(simp only [Int.reduceToNat] at ho3;rw [←Y0.1] at ho3));have O0:=zz (Kd.R_lower ho3 (zD zq0));replace HB:=zz (ze zq0 hb);clear hb ho3))
 go_loopg [0,3] k (fun kq v0 v3 w'=>∃(x0:Int) (x1:List Int),v0= .int .i64 x0∧Z0 (impl_varText.l0 kq x0 x1=some r)∧Z0 (kq≤k)∧Z0 (Kd.R (Kd.int .u8) 5 w' w.heap.size (fun _=>True) v3 x1)∧Z0 (Below w.heap.size w w'))
 case atStart=>exact ⟨(a0),(y0),zq18,H',⟨z3a _⟩,⟨by (with_reducible repeat (first|apply Kd.R_alloc|apply Kd.R_drewN|apply Kd.R_drew));exact O0.1⟩,⟨zq0⟩⟩
 case round=>
  clear H'
  obtain ⟨x0,x1,rfl,HA,HK1,O1,HB⟩:=hrel
  cases gk with
  |zero=>exact absurd HA.1 (by simp [impl_varText.l0])
  |succ k1=>
   have H:=HA.1
   clear HA
   simp only [impl_varText.l0] at H
   by_cases c4:x0>127
   ·rw [if_pos c4] at H
    have c4b0:decide (127<x0)=true:=z6 c4
    clear c4
    by_cases c5:x1.length<140737488355328
    ·rw [if_pos c5] at H
     have LMc5:=zz c5
     clear c5
     obtain ⟨y1,i1⟩:∃y_:List Int,y_=(x1++[(Go.bits .or .i64 (Go.bits .and .i64 x0 127) 128)%256]):=⟨_,rfl⟩
     replace H:(impl_varText.l0 k1 (x0/128) y1)=some r:=zq34
     have Y1:=zz i1
     clear i1
     have H':=zz H
     clear H
     go_wp2_with (first|((with_reducible refine zea (b:= .append) (xs:= #[.tmp 7,.tmp 12]) rfl ?_);at_builtin;refine Kd.R_append (Kd.int .u8) (w0:=w) w.heap.size rfl (.tmp 7) (.tmp 12) 141 5 (.int .u8 0) 1 rfl Tryz.underlying141 info5 rfl zq31 zq9 u3 x1 ((Go.bits .or .i64 (Go.bits .and .i64 x0 127) 128)%256) [.int .u8 ((Go.bits .or .i64 (Go.bits .and .i64 x0 127) 128)%256)] (fun _=>True) (fun _=>False) rfl rfl ?aP (fun _ hk=>hk.elim) ?aF ?aO ?aB ?aS ?aL ?_;(case aP=>exact rfl);(case aB=>exact zq0);(case aF=>exact (fun _ _=>trivial));(case aO=>exact (zq17 O1.1));(case aS=>exact (zD zq0));(case aL=>have:=LMc5.1;omega);intro v430 w6 ho hb hg hat;rw [←Y1.1] at ho;have O2:=zz ho;replace HB:=zz hb;clear O1;clear ho hb hg hat))
     go_roundg k1
     case measure=>have:=HK1.1;omega
     case rel=>exact ⟨(x0/128),(y1),zq18,H',⟨zq51 HK1.1⟩,⟨by (with_reducible repeat (first|apply Kd.R_alloc|apply Kd.R_drewN|apply Kd.R_drew));exact O2.1⟩,⟨zq0⟩⟩
    ·exact zq155
   ·rw [if_neg c4] at H
    have c4b0:decide (127<x0)=false:=z7 c4
    clear c4
    by_cases c7:x1.length<140737488355328
    ·rw [if_pos c7] at H
     have LMc7:=zz c7
     clear c7
     obtain ⟨y2,i2⟩:∃y_:List Int,y_=(x1++[(x0)%256]):=⟨_,rfl⟩
     replace H:(some (strOfNums y2))=some r:=zq52
     have Y2:=zz i2
     clear i2
     obtain rfl:=z6a H
     go_wp2_with (first|((with_reducible refine zea (b:= .append) (xs:= #[.tmp 16,.tmp 19]) rfl ?_);at_builtin;refine Kd.R_append (Kd.int .u8) (w0:=w) w.heap.size rfl (.tmp 16) (.tmp 19) 141 5 (.int .u8 0) 1 rfl Tryz.underlying141 info5 rfl zq31 zq9 u3 x1 ((x0)%256) [.int .u8 ((x0)%256)] (fun _=>True) (fun _=>False) rfl rfl ?aP (fun _ hk=>hk.elim) ?aF ?aO ?aB ?aS ?aL ?_;(case aP=>exact rfl);(case aB=>exact zq0);(case aF=>exact (fun _ _=>trivial));(case aO=>exact (zq17 O1.1));(case aS=>exact (zD zq0));(case aL=>have:=LMc7.1;omega);intro v433 w8 ho hb hg hat;rw [←Y2.1] at ho;have O3:=zz ho;replace HB:=zz hb;clear O1;clear ho hb hg hat;have hcv9:=zYb (P:=Tryz.prog) Tryz.underlying141 Tryz.underlying5 Tryz.underlying9 (Kd.own_of_R O3.1)))
     go_ret
     exact ⟨zq16,zq0⟩
    ·exact zq176
structure TxF (k:Nat) (vt:Int→ByteArray) (sl:ByteArray→ByteArray):Prop where
 vS:∀n:Int,0≤n→n≤100000→spec_l01Var.f k n=some (vt n)
 vI:∀n:Int,0≤n→n≤100000→impl_varText.f k n=some (vt n)
 vz:∀n:Int,(vt n).size≤8
 sS:∀s:ByteArray,s.size≤20000→spec_Sealed.f k s=some (s++sl s,true)
 sI:∀s:ByteArray,s.size≤20000→impl_seal.f k s=some (sl s)
 sz:∀s,(sl s).size=4
section
variable (vt:Int→ByteArray) (sl:ByteArray→ByteArray)
def pacc (s:ByteArray) (ps:List Int):ByteArray:=ps.foldl (fun s p=>s++vt p) s
def facc (s:ByteArray) (fs:List S112):ByteArray:=fs.foldl (fun s f=>pacc vt (s++vt f.f0++vt (f.f1.length:Int)) f.f1) s
def mhead (x:S40):ByteArray:=vt x.f0++vt x.f1++vt x.f2++vt (x.f3.length:Int)
def mbody (x:S40):ByteArray:=facc vt (mhead vt x) x.f3
def MTxt (x:S40) (t:ByteArray) (ok:Bool):Prop:=(¬MOk x∧t=⟨#[]⟩∧ok=false)∨(MOk x∧240<(mbody vt x++sl (mbody vt x)).size∧t=⟨#[]⟩∧ok=false)∨(MOk x∧(mbody vt x++sl (mbody vt x)).size≤240∧t=mbody vt x++sl (mbody vt x)∧ok=true)
end
section
variable {vt:Int→ByteArray} {sl:ByteArray→ByteArray} {k:Nat}
theorem pacc_succ {ps:List Int} {i:Nat} {p:Int} {s:ByteArray} (h:ps[i]?=some p):pacc vt s (ps.take (i+1))=pacc vt s (ps.take i)++vt p:=by
 obtain ⟨hi,rfl⟩:=List.getElem?_eq_some_iff.1 h
 unfold pacc
 rw [List.take_succ_eq_append_getElem hi,List.foldl_append]
 rfl
theorem facc_succ {fs:List S112} {i:Nat} {f:S112} {s:ByteArray} (h:fs[i]?=some f):facc vt s (fs.take (i+1))=pacc vt (facc vt s (fs.take i)++vt f.f0++vt (f.f1.length:Int)) f.f1:=by
 obtain ⟨hi,rfl⟩:=List.getElem?_eq_some_iff.1 h
 unfold facc
 rw [List.take_succ_eq_append_getElem hi,List.foldl_append]
 rfl
theorem pacc_size (V:∀n:Int,(vt n).size≤8) (s:ByteArray):∀ps:List Int,(pacc vt s ps).size≤s.size+8*ps.length:=by
 intro ps
 induction ps generalizing s with
 |nil=>simp [pacc]
 |cons p ps ih=>
  have:=ih (s++vt p)
  have:=V p
  rw [ByteArray.size_append] at*
  simp only [pacc,List.foldl_cons,List.length_cons] at*
  omega
theorem facc_size (V:∀n:Int,(vt n).size≤8) (s:ByteArray):∀fs:List S112,(∀f∈fs,f.f1.length≤40)→(facc vt s fs).size≤s.size+336*fs.length:=by
 intro fs
 induction fs generalizing s with
 |nil=>simp [facc]
 |cons f fs ih=>
  intro h
  have h1:=ih (pacc vt (s++vt f.f0++vt (f.f1.length:Int)) f.f1) (fun g hg=>h g (List.mem_cons_of_mem _ hg))
  have h2:=pacc_size V (s++vt f.f0++vt (f.f1.length:Int)) f.f1
  have:=V f.f0
  have:=V (f.f1.length:Int)
  have:=h f List.mem_cons_self
  rw [ByteArray.size_append,ByteArray.size_append] at h2
  show (facc vt _ fs).size≤_
  simp only [List.length_cons]
  omega
theorem mhead_size (V:∀n:Int,(vt n).size≤8) (x:S40):(mhead vt x).size≤32:=by
 unfold mhead
 have:=V x.f0
 have:=V x.f1
 have:=V x.f2
 have:=V (x.f3.length:Int)
 simp only [ByteArray.size_append]
 omega
theorem MOk.f0 {x:S40} (h:MOk x):0≤x.f0∧x.f0≤100000:=h.1.1
theorem MOk.f1 {x:S40} (h:MOk x):0≤x.f1∧x.f1≤100000:=by
 obtain ⟨⟨-,h2,h1,-⟩,-⟩:=h
 rcases h1 with h1|h1<;>omega
theorem MOk.f2 {x:S40} (h:MOk x):0≤x.f2∧x.f2≤100000:=by
 have:=h.1.2.1
 omega
theorem MOk.len {x:S40} (h:MOk x):x.f3.length≤20:=h.1.2.2.2
theorem MOk.fr {x:S40} (h:MOk x) {i:Nat} {f:S112} (hi:x.f3[i]?=some f):(0≤f.f0∧f.f0≤100000)∧f.f1.length≤40∧∀(j:Nat) (p:Int),f.f1[j]?=some p→0≤p∧p≤100000:=by
 obtain ⟨h1,h2⟩:=h.2 i f hi
 have:=h.f0
 have:=h1.1
 have:=h.1.2.1
 refine ⟨zq9,h1.2.2.2,fun j p hp=> ?_⟩
 have:=(h2 j p hp).1
 omega
theorem MOk.le40 {x:S40} (h:MOk x):∀f∈x.f3,f.f1.length≤40:=fun f hf=>by
 obtain ⟨i,hi,rfl⟩:=List.getElem_of_mem hf
 exact (h.fr (List.getElem?_eq_getElem hi)).2.1
theorem varS (T:TxF k vt sl) (n:Int) (h0:0≤n) (h1:n≤100000) (w:World):Calls Tryz.prog 81 #[.int .i64 n] w fun e w'=>e= .returned (.string (vt n))∧Below w.heap.size w w':=spec_l01Var.calls k n _ w (T.vS n h0 h1)
theorem varI (T:TxF k vt sl) (n:Int) (h0:0≤n) (h1:n≤100000) (w:World):Calls Tryz.prog 124 #[.int .i64 n] w fun e w'=>e= .returned (.string (vt n))∧Below w.heap.size w w':=impl_varText.calls k n _ w (T.vI n h0 h1)
end
theorem rt2 {a b:ByteArray} {o:Bool} (h:a=b):Ending.returned (.tuple #[.string a,.bool o])= .returned (.tuple #[.string b,.bool o]):=by rw [h]
structure BoxAt (w w':World) (cs:List Value):Prop where
 box:w'.heap[w.heap.size]?=some (.cells cs.toArray 40 (0,0))
 bel:Below w.heap.size w w'
theorem BoxAt.step {w w' w2:World} {cs:List Value} (h:BoxAt w w' cs) (hb:Below w'.heap.size w' w2):BoxAt w w2 cs:=⟨zg h.box hb,ze h.bel hb⟩
end Go.Proofs.YtonhdiemjgdcnaaGreat.PFnExactGivePage
namespace Go.Proofs.YtonhdiemjgdcnaaGreat.PFnExactGivePage
open Go.RowKit Go.Proofs.YtonhdiemjgdcnaaGreatW.PrintWords Go.Proofs.YtonhdiemjgdcnaaGreatW.PrintLast Go.Proofs.YtonhdiemjgdcnaaGreatW.PrintMore
def enc (n:Nat):List Int:=if h:n<128 then [(n:Int)] else ((n%128+128:Nat):Int)::enc (n/128)
termination_by n
decreasing_by omega
theorem zZb {n:Nat} (h:n<128):enc n=[(n:Int)]:=by rw [enc,dif_pos h]
theorem enc_great {n:Nat} (h:¬n<128):enc n=((n%128+128:Nat):Int)::enc (n/128):=by rw [enc,dif_neg h]
theorem enc_len (i:Nat):∀n,n<128^(i+1)→(enc n).length≤i+1:=by
 induction i with
 |zero=>
  intro n hn
  rw [zZb (by simpa using hn)]
  simp
 |succ i ih=>
  intro n hn
  by_cases h:n<128
  ·rw [zZb h]
   simp
  ·rw [enc_great h,List.length_cons]
   have:=ih (n/128) (by
    rw [Nat.div_lt_iff_lt_mul zq31]
    rwa [←Nat.pow_succ])
   omega
theorem w64 {n:Int} (h0:0≤n) (h1:n<9223372036854775808):wrap64 n=n:=by unfold wrap64;omega
theorem l01Var_ev:∀(i n:Nat) (acc:List Int),n<128^(i+1)→acc.length+i<140737488355328→n<4611686018427387904→spec_l01Var.l0 (i+1) (n:Int) acc=some (strOfNums (acc++enc n)):=by
 intro i
 induction i with
 |zero=>
  intro n acc hn hl hb
  have h:n<128:=by simpa using hn
  simp only [spec_l01Var.l0]
  rw [if_neg zq9,if_pos zq9,zZb h,show (n:Int)%256=n by omega]
 |succ i ih=>
  intro n acc hn hl hb
  by_cases h:n<128
  ·simp only [spec_l01Var.l0]
   rw [if_neg zq9,if_pos zq9,zZb h,show (n:Int)%256=n by omega]
  ·have hd:n/128<128^(i+1):=by
    rw [Nat.div_lt_iff_lt_mul zq31]
    rwa [←Nat.pow_succ]
   have:=ih (n/128) (acc++[((n%128+128:Nat):Int)]) hd zq117 zq9
   rw [spec_l01Var.l0,if_pos zq9,if_pos zq9,enc_great h]
   rw [show wrap64 (Int.tdiv (n:Int) 128)=((n/128:Nat):Int) by
    rw [Int.tdiv_eq_ediv_of_nonneg zq9];unfold wrap64;omega]
   rw [show (wrap64 (Int.tmod (n:Int) 128+128))%256=((n%128+128:Nat):Int) by
    rw [Int.tmod_eq_emod_of_nonneg zq9];unfold wrap64;omega]
   rw [this]
   simp
namespace Crc
def st (s:Nat):Nat:=if s%2=1 then (s/2)^^^3558460437 else s/2
def st8 (s:Nat):Nat:=st (st (st (st (st (st (st (st s)))))))
def upd (s b:Nat):Nat:=st8 (s^^^b)
def sum (s:Nat) (l:List Nat):Nat:=l.foldl upd s
theorem st_lt {s:Nat} (h:s<2^32):st s<2^32:=by
 unfold st
 split
 ·exact Nat.xor_lt_two_pow zq9 zq31
 ·omega
theorem st8_lt {s:Nat} (h:s<2^32):st8 s<2^32:=by
 unfold st8
 exact st_lt (st_lt (st_lt (st_lt (st_lt (st_lt (st_lt (st_lt h)))))))
theorem upd_lt {s b:Nat} (hs:s<2^32) (hb:b<256):upd s b<2^32:=st8_lt (Nat.xor_lt_two_pow hs zq9)
end Crc
def zgb (s:ByteArray):List Nat:=(List.range s.size).map fun (j:Nat)=>(bt s (j:Int)).toNat
theorem natBytes_len (s:ByteArray):(zgb s).length=s.size:=by simp [zgb]
theorem natBytes_byte (s:ByteArray):∀b∈zgb s,b<256:=by
 intro b hb
 simp only [zgb,List.mem_map] at hb
 obtain ⟨j,_,rfl⟩:=hb
 have:=bt_range s (j:Int)
 omega
theorem natBytes_drop (s:ByteArray) (i:Nat) (h:i<s.size):(zgb s).drop i=(bt s (i:Int)).toNat::(zgb s).drop (i+1):=by
 rw [List.drop_eq_getElem_cons (by rw [natBytes_len];exact h)]
 simp [zgb]
theorem zPb (k s:Nat) (hs:s<4294967296) (x:ByteArray) (n i:Int) (j:Nat) (hj:j<8):impl_SumMore.l1 (k+1) (s:Int) x n i (j:Int)=impl_SumMore.l1 k ((Crc.st s:Nat):Int) x n i ((j+1:Nat):Int):=by
 have e1:wrap64 ((j:Int)+1)=((j+1:Nat):Int):=zq138
 have e2:Go.bits .and .u32 (s:Int) 1=((s%2:Nat):Int):=by
  have:=u32_and_nat s 1 hs zq31
  rw [Nat.and_one_is_mod] at this
  exact this
 have e3:(s:Int)/2=((s/2:Nat):Int):=zq9
 have e4:Go.bits .xor .u32 ((s/2:Nat):Int) 3558460437=(((s/2)^^^3558460437:Nat):Int):=u32_xor_nat (s/2) 3558460437 zq9 zq31
 have c0:(j:Int)<8:=zq9
 rw [impl_SumMore.l1,if_pos c0,e1,e2,e3,e4]
 unfold Crc.st
 by_cases h:s%2=1
 ·rw [if_pos (by rw [h];rfl),if_pos h]
 ·rw [if_neg (by intro q;apply h;omega),if_neg h]
theorem zLb (k s:Nat) (hs:s<4294967296) (x:ByteArray) (i:Int) (j:Nat) (hj:j<8):spec_SumMore.l1 (k+1) (s:Int) x i (j:Int)=spec_SumMore.l1 k ((Crc.st s:Nat):Int) x i ((j+1:Nat):Int):=by
 have e1:wrap64 ((j:Int)+1)=((j+1:Nat):Int):=zq138
 have e2:Int.tmod (s:Int) 2=((s%2:Nat):Int):=by rw [Int.tmod_eq_emod_of_nonneg zq9];omega
 have e3:(Int.tdiv (s:Int) 2)%4294967296=((s/2:Nat):Int):=by rw [Int.tdiv_eq_ediv_of_nonneg zq9];omega
 have e4:Go.bits .xor .u32 ((s/2:Nat):Int) 3558460437=(((s/2)^^^3558460437:Nat):Int):=u32_xor_nat (s/2) 3558460437 zq9 zq31
 have c0:(j:Int)<8:=zq9
 rw [spec_SumMore.l1,if_pos c0,e1,e2,e3,e4]
 unfold Crc.st
 by_cases h:s%2=1
 ·rw [if_pos (by rw [h];rfl),if_pos h]
 ·rw [if_neg (by intro q;apply h;omega),if_neg h]
theorem st_lt' {s:Nat} (h:s<4294967296):Crc.st s<4294967296:=Crc.st_lt h
theorem impl_byte (k s:Nat) (hs:s<4294967296) (x:ByteArray) (n:Int) (i:Nat) (hi:(i:Int)<n) (hx:i<x.size) (hsz:x.size≤140737488351232):impl_SumMore.l0 (k+10) (s:Int) x n (i:Int)=impl_SumMore.l0 k ((Crc.upd s (bt x (i:Int)).toNat:Nat):Int) x n ((i+1:Nat):Int):=by
 obtain ⟨b,hb⟩:∃b:Nat,bt x (i:Int)=(b:Int):=⟨(bt x (i:Int)).toNat,(Int.toNat_of_nonneg (bt_range x (i:Int)).1).symm⟩
 have hb256:b<256:=by have:=(bt_range x (i:Int)).2;rw [hb] at this;omega
 have e0:(bt x (i:Int))%4294967296=(b:Int):=by rw [hb];omega
 have e1:Go.bits .xor .u32 (s:Int) (b:Int)=((s^^^b:Nat):Int):=u32_xor_nat s b hs zq9
 have e2:wrap64 ((i:Int)+1)=((i+1:Nat):Int):=zq138
 have c1:(0:Int)≤(i:Int):=zq9
 have c2:(i:Int)<(x.size:Int):=zq9
 have h0:s^^^b<4294967296:=Nat.xor_lt_two_pow (n:=32) hs zq9
 rw [impl_SumMore.l0,if_pos hi,if_pos c1,if_pos c2,e0,e1,hb,Int.toNat_natCast]
 have z:(0:Int)=((0:Nat):Int):=rfl
 rw [z,zPb _ _ h0 x n i 0 zq31,zPb _ _ (st_lt' h0) x n i 1 zq31,zPb _ _ (st_lt' (st_lt' h0)) x n i 2 zq31,zPb _ _ (st_lt' (st_lt' (st_lt' h0))) x n i 3 zq31,
  zPb _ _ (st_lt' (st_lt' (st_lt' (st_lt' h0)))) x n i 4 zq31,zPb _ _ (st_lt' (st_lt' (st_lt' (st_lt' (st_lt' h0))))) x n i 5 zq31,zPb _ _ (st_lt' (st_lt' (st_lt' (st_lt' (st_lt' (st_lt' h0)))))) x n i 6 zq31,zPb _ _ (st_lt' (st_lt' (st_lt' (st_lt' (st_lt' (st_lt' (st_lt' h0))))))) x n i 7 zq31]
 have c3:¬((7+1:Nat):Int)<8:=zq31
 rw [impl_SumMore.l1,if_neg c3,e2]
 rfl
theorem spec_byte (k s:Nat) (hs:s<4294967296) (x:ByteArray) (i:Nat) (hx:i<x.size) (hsz:x.size≤140737488351232):spec_SumMore.l0 (k+10) (s:Int) x (i:Int)=spec_SumMore.l0 k ((Crc.upd s (bt x (i:Int)).toNat:Nat):Int) x ((i+1:Nat):Int):=by
 obtain ⟨b,hb⟩:∃b:Nat,bt x (i:Int)=(b:Int):=⟨(bt x (i:Int)).toNat,(Int.toNat_of_nonneg (bt_range x (i:Int)).1).symm⟩
 have hb256:b<256:=by have:=(bt_range x (i:Int)).2;rw [hb] at this;omega
 have e0:(bt x (i:Int))%4294967296=(b:Int):=by rw [hb];omega
 have e1:Go.bits .xor .u32 (s:Int) (b:Int)=((s^^^b:Nat):Int):=u32_xor_nat s b hs zq9
 have e2:wrap64 ((i:Int)+1)=((i+1:Nat):Int):=zq138
 have c1:(0:Int)≤(i:Int):=zq9
 have c2:(i:Int)<(x.size:Int):=zq9
 have h0:s^^^b<4294967296:=Nat.xor_lt_two_pow (n:=32) hs zq9
 rw [spec_SumMore.l0,if_pos c2,if_pos c1,e0,e1,hb,Int.toNat_natCast]
 have z:(0:Int)=((0:Nat):Int):=rfl
 rw [z,zLb _ _ h0 x i 0 zq31,zLb _ _ (st_lt' h0) x i 1 zq31,zLb _ _ (st_lt' (st_lt' h0)) x i 2 zq31,zLb _ _ (st_lt' (st_lt' (st_lt' h0))) x i 3 zq31,
  zLb _ _ (st_lt' (st_lt' (st_lt' (st_lt' h0)))) x i 4 zq31,zLb _ _ (st_lt' (st_lt' (st_lt' (st_lt' (st_lt' h0))))) x i 5 zq31,zLb _ _ (st_lt' (st_lt' (st_lt' (st_lt' (st_lt' (st_lt' h0)))))) x i 6 zq31,zLb _ _ (st_lt' (st_lt' (st_lt' (st_lt' (st_lt' (st_lt' (st_lt' h0))))))) x i 7 zq31]
 have c3:¬((7+1:Nat):Int)<8:=zq31
 rw [spec_SumMore.l1,if_neg c3,e2]
 rfl
theorem sums (x:ByteArray) (hsz:x.size≤140737488351232):∀(d i s:Nat),i+d=x.size→s<4294967296→
  impl_SumMore.l0 (10*d+1) (s:Int) x (x.size:Int) (i:Int)=some ((Crc.sum s ((zgb x).drop i):Nat):Int)∧spec_SumMore.l0 (10*d+1) (s:Int) x (i:Int)=some ((Crc.sum s ((zgb x).drop i):Nat):Int):=by
 intro d
 induction d with
 |zero=>
  intro i s hi hs
  have hn:(zgb x).drop i=[]:=List.drop_eq_nil_of_le (by rw [natBytes_len];omega)
  have c:¬(i:Int)<(x.size:Int):=zq9
  rw [hn]
  exact ⟨by rw [impl_SumMore.l0,if_neg c];rfl,by rw [spec_SumMore.l0,if_neg c];rfl⟩
 |succ d ih=>
  intro i s hi hs
  have hlt:i<x.size:=zq9
  have hb:=natBytes_byte x (bt x (i:Int)).toNat (by
   have:=natBytes_drop x i hlt
   exact List.mem_of_mem_drop (i:=i) (by rw [this];simp))
  obtain ⟨h1,h2⟩:=ih (i+1) (Crc.upd s (bt x (i:Int)).toNat) zq9 (Crc.upd_lt hs hb)
  rw [show 10*(d+1)+1=10*d+1+10 by omega,impl_byte _ s hs x _ i zq9 hlt hsz,spec_byte _ s hs x i hlt hsz,natBytes_drop x i hlt]
  exact ⟨h1,h2⟩
def crcN (s:ByteArray):Nat:=Crc.sum 4294967295 (zgb s)
def sealN (s:ByteArray):ByteArray:=strOfNums [((crcN s:Nat):Int)/16777216%256,((crcN s:Nat):Int)/65536%256,((crcN s:Nat):Int)/256%256,((crcN s:Nat):Int)%256]
theorem seal_f (s:ByteArray) (hs:s.size≤140737488351232):impl_seal.f (10*s.size+1) s=some (sealN s)∧(spec_SumOf.f (10*s.size+1) s).bind spec_l02Four.f=some (sealN s):=by
 obtain ⟨h1,h2⟩:=sums s hs s.size 0 4294967295 zq9 zq31
 have z:((0:Nat):Int)=0:=rfl
 have y:((4294967295:Nat):Int)=4294967295:=rfl
 rw [z,y,List.drop_zero] at h1 h2
 unfold impl_seal.f impl_SumOf.f impl_SumMore.f spec_SumOf.f spec_SumMore.f
 rw [h1,h2]
 exact ⟨rfl,rfl⟩
theorem le_up {α:Type} {f:Nat→Option α} (h:∀k,LeO (f k) (f (k+1))) {k:Nat} {r:α} (hf:f k=some r):∀d,f (k+d)=some r
 |0=>hf
 |d+1=>h _ r (le_up h hf d)
theorem le_upto {α:Type} {f:Nat→Option α} (h:∀k,LeO (f k) (f (k+1))) {k K:Nat} {r:α} (hk:k≤K) (hf:f k=some r):f K=some r:=by
 obtain ⟨d,rfl⟩:=Nat.le.dest hk
 exact le_up h hf d
theorem or128:∀m:Fin 128,Go.bits .or .i64 ((m.val:Nat):Int) 128=((m.val+128:Nat):Int):=by decide+kernel
theorem varText_ev:∀(i n:Nat) (acc:List Int),n<128^(i+1)→acc.length+i<140737488355328→n<4611686018427387904→impl_varText.l0 (i+1) (n:Int) acc=some (strOfNums (acc++enc n)):=by
 intro i
 induction i with
 |zero=>
  intro n acc hn hl hb
  have h:n<128:=by simpa using hn
  simp only [impl_varText.l0]
  rw [if_neg zq9,if_pos zq9,zZb h,show (n:Int)%256=n by omega]
 |succ i ih=>
  intro n acc hn hl hb
  by_cases h:n<128
  ·simp only [impl_varText.l0]
   rw [if_neg zq9,if_pos zq9,zZb h,show (n:Int)%256=n by omega]
  ·have hd:n/128<128^(i+1):=by
    rw [Nat.div_lt_iff_lt_mul zq31]
    rwa [←Nat.pow_succ]
   have:=ih (n/128) (acc++[((n%128+128:Nat):Int)]) hd zq117 zq9
   rw [impl_varText.l0,if_pos zq9,if_pos zq9,enc_great h,i64_and127]
   rw [show ((n:Int)/128)=((n/128:Nat):Int) by omega]
   rw [show ((n:Int)%128)=((n%128:Nat):Int) by omega,or128 ⟨n%128,zq9⟩]
   rw [show (((n%128+128:Nat):Int))%256=((n%128+128:Nat):Int) by omega]
   rw [this]
   simp
def vtN (n:Int):ByteArray:=if 0≤n∧n≤100000 then strOfNums (enc n.toNat) else ⟨#[]⟩
theorem sealN_size (s:ByteArray):(sealN s).size=4:=by unfold sealN;rw [strOfNums_size];rfl
theorem txF:EvP (fun k=>TxF k vtN sealN):=by
 refine ⟨200001,fun k hk=>⟨fun n h0 h1=> ?_,fun n h0 h1=> ?_,fun n=> ?_,fun s hs=> ?_,fun s hs=> ?_,sealN_size⟩⟩
 ·refine le_upto (spec_l01Var.mono n) (show 3≤k by omega) ?_
  unfold spec_l01Var.f vtN
  rw [if_pos ⟨h0,h1⟩]
  obtain ⟨m,rfl⟩:=Int.eq_ofNat_of_zero_le h0
  exact l01Var_ev 2 m [] zq9 zq38 zq9
 ·refine le_upto (impl_varText.mono n) (show 3≤k by omega) ?_
  unfold impl_varText.f vtN
  rw [if_pos ⟨h0,h1⟩]
  obtain ⟨m,rfl⟩:=Int.eq_ofNat_of_zero_le h0
  exact varText_ev 2 m [] zq9 zq38 zq9
 ·unfold vtN
  split
  ·rename_i h
   rw [strOfNums_size]
   have:=enc_len 2 n.toNat zq9
   omega
  ·exact z0b _
 ·obtain ⟨_,h2⟩:=seal_f s zq9
  refine le_upto (spec_Sealed.mono s) (show 10*s.size+1≤k by omega) ?_
  unfold spec_Sealed.f
  have c1:¬(s.size:Int)>20000:=zq9
  rw [if_neg c1]
  cases hq:spec_SumOf.f (10*s.size+1) s with
  |none=>rw [hq] at h2;cases h2
  |some q=>
   rw [hq,Option.bind_some] at h2
   have h4:=sealN_size s
   rw [Option.bind_some,h2,Option.bind_some,if_pos zq9]
 ·exact le_upto (impl_seal.mono s) (show 10*s.size+1≤k by omega) (seal_f s zq9).1
end Go.Proofs.YtonhdiemjgdcnaaGreat.PFnExactGivePage
namespace Go.Proofs.YtonhdiemjgdcnaaGreat.PFnExactGivePage
open Go.RowKit Go.Proofs.YtonhdiemjgdcnaaGreatW.PrintWords Go.Proofs.YtonhdiemjgdcnaaGreatW.PrintLast Go.Proofs.YtonhdiemjgdcnaaGreatW.PrintMore
attribute [local go_sem] zma zla zwa zxa zba zca zoa zna
mutual
def spec_DiskOk.l0:Nat→Int→List ByteArray→List (S110)→Option (Bool)
 |0,_,_,_=>none
 |k+1,x3,x174000,x174001=>if x3<(x174000.length:Int) then (if 0≤x3 then (if ((zcc ByteArray.empty x174000 x3).size:Int)>240 then (some false) else (spec_DiskOk.l0 k (wrap64 (x3+1)) x174000 x174001)) else (none)) else (spec_DiskOk.l1 k 0 x174000 x174001)
def spec_DiskOk.l1:Nat→Int→List ByteArray→List (S110)→Option (Bool)
 |0,_,_,_=>none
 |k+1,x4,x174000,x174001=>if x4<(x174001.length:Int) then (if 0≤x4 then ((spec_l01In.f ((zv x174001 x4).f0) 0 (wrap64 ((x174000.length:Int)-1))).bind fun t176=>(if t176=true then (if (((zv x174001 x4).f1).size:Int)>240 then (some false) else (spec_DiskOk.l1 k (wrap64 (x4+1)) x174000 x174001)) else (some false))) else (none)) else ((spec_l01In.f (x174000.length:Int) 4 40).bind fun t178=>(if t178=true then (some (decide ((x174001.length:Int)≤200))) else (some false)))
end
def spec_DiskOk.f (k:Nat) (l0_0:List ByteArray) (l0_1:List (S110)):Option (Bool):=spec_DiskOk.l0 k 0 l0_0 l0_1
theorem spec_DiskOk.calls (k:Nat) (A0:Option Addr) (c0:Nat) (l2:List ByteArray) (A1:Option Addr) (c1:Nat) (l3:List (S110)) (r:Bool) (w:World) (r0:Kd.C Kd.string w A0 l2.length l2) (h0:l2.length≤c0) (r1:Kd.C k110 w A1 l3.length l3) (h2:l3.length≤c1) (h:spec_DiskOk.f k l2 l3=some r):
  Calls Tryz.prog 83 #[.agg #[.slice A0 l2.length c0,.slice A1 l3.length c1]] w fun e w'=>e= .returned (.bool r)∧Below w.heap.size w w':=by
 have hu32:=Tryz.underlying37
 have R0:=zz r0
 clear r0 h0
 have R1:=zz r1
 clear r1 h2
 have HB:=zz (z1a w.heap.size w)
 have H:(spec_DiskOk.l0 k 0 l2 l3)=some r:=h
 clear h
 have H':=zz H
 clear H
 go_enter Tryz.func83,Tryz.ntmps83
 go_wp2_with (first|((with_reducible refine zd (N:=1) rfl ?_);(try (refine zJa zq22 ?_;dsimp only));refine zx rfl (N:=1) rfl (cs:= #[.slice A0 l2.length c0,.slice A1 l3.length c1]) (t:=37) zq27 ?_;intro g0 hg w2 hbox hb;have B0:=zz hbox;have G0:=zz (zq15:w.heap.size≤g0);replace HB:=zz (ze zq0 hb);clear hb hbox hg))
 repeat (go_quiet (first|((with_reducible refine zd (N:=1) rfl ?_);(try (refine zJa zq22 ?_;dsimp only));refine zx rfl (N:=1) rfl (cs:= #[.slice A0 l2.length c0,.slice A1 l3.length c1]) (t:=37) zq27 ?_;intro g0 hg w2 hbox hb;have B0:=zz hbox;have G0:=zz (zq15:w.heap.size≤g0);replace HB:=zz (ze zq0 hb);clear hb hbox hg));try go_wp2_with (first|((with_reducible refine zd (N:=1) rfl ?_);(try (refine zJa zq22 ?_;dsimp only));refine zx rfl (N:=1) rfl (cs:= #[.slice A0 l2.length c0,.slice A1 l3.length c1]) (t:=37) zq27 ?_;intro g0 hg w2 hbox hb;have B0:=zz hbox;have G0:=zz (zq15:w.heap.size≤g0);replace HB:=zz (ze zq0 hb);clear hb hbox hg)))
 go_loopg [3] k (fun kq v3 w'=>∃(x0:Int),v3= .int .i64 x0∧Z0 (spec_DiskOk.l0 kq x0 l2 l3=some r)∧Z0 (kq≤k)∧Z0 (w'.heap[g0]?=some (.cells #[(.slice A0 l2.length c0),(.slice A1 l3.length c1)] 37 (0,0)))∧Z0 (Below w.heap.size w w'))
 case atStart=>exact ⟨(0),zq18,H',⟨z3a _⟩,⟨by (with_reducible repeat (first|refine zk ?_ _|refine zl ?_|refine zh ?_ _));exact B0.1⟩,⟨zq4 G0.1⟩⟩
 case round=>
  clear H'
  obtain ⟨x0,rfl,HA,HK1,B0,HB⟩:=hrel
  cases gk with
  |zero=>exact absurd HA.1 (by simp [spec_DiskOk.l0])
  |succ k1=>
   have H:=HA.1
   clear HA
   simp only [spec_DiskOk.l0] at H
   by_cases c3:x0<(l2.length:Int)
   ·rw [if_pos c3] at H
    have c3b0:=z6 c3
    clear c3
    by_cases c4:0≤x0
    ·rw [if_pos c4] at H
     have c4b0:=z6 c4
     clear c4
     by_cases c5:((zcc ByteArray.empty l2 x0).size:Int)>240
     ·rw [if_pos c5] at H
      have c5b0:decide (240<((zcc ByteArray.empty l2 x0).size:Int))=true:=z6 c5
      have c5b1:decide (240<(zcc ByteArray.empty l2 x0).size)=true:=z6 zq9
      clear c5
      obtain rfl:=z6a H
      have h3:wr.cell? ⟨g0,0,none⟩=some (.slice A0 l2.length c0):=(zj B0.1 0).trans rfl
      have h4:wr.cell? ⟨g0,1,none⟩=some (.slice A1 l3.length c1):=(zj B0.1 1).trans rfl
      have h5:=zu B0.1 0
      have h6:=zu B0.1 1
      have p0:0≤(x0:Int):=z8 zq21
      have q0:x0<(l2.length:Int):=z8 zq21
      obtain ⟨b0,e0,k0⟩:=Kd.at_string R0.1 x0 p0 q0
      cases e0
      replace k0:=(HB.1.cell (z0a w _ k0)).trans k0
      replace p0:=eq_true p0
      replace q0:=eq_true q0
      go_wp2
      repeat (go_quiet (fail);try go_wp2)
      exact zq153
     ·rw [if_neg c5] at H
      have c5b0:decide (240<((zcc ByteArray.empty l2 x0).size:Int))=false:=z7 c5
      have c5b1:decide (240<(zcc ByteArray.empty l2 x0).size)=false:=z7 zq9
      clear c5
      have H':=zz H
      clear H
      have h7:wr.cell? ⟨g0,0,none⟩=some (.slice A0 l2.length c0):=(zj B0.1 0).trans rfl
      have h8:wr.cell? ⟨g0,1,none⟩=some (.slice A1 l3.length c1):=(zj B0.1 1).trans rfl
      have h9:=zu B0.1 0
      have h10:=zu B0.1 1
      have p0:0≤(x0:Int):=z8 zq21
      have q0:x0<(l2.length:Int):=z8 zq21
      obtain ⟨b0,e0,k0⟩:=Kd.at_string R0.1 x0 p0 q0
      cases e0
      replace k0:=(HB.1.cell (z0a w _ k0)).trans k0
      replace p0:=eq_true p0
      replace q0:=eq_true q0
      go_wp2
      repeat (go_quiet (fail);try go_wp2)
      go_roundg k1
      case measure=>have:=HK1.1;omega
      case rel=>exact ⟨(wrap64 (x0+1)),zq18,H',⟨zq51 HK1.1⟩,⟨by (with_reducible repeat (first|refine zk ?_ _|refine zl ?_|refine zh ?_ _));exact B0.1⟩,⟨zq4 G0.1⟩⟩
    ·exact zq161
   ·rw [if_neg c3] at H
    have c3b0:=z7 c3
    clear c3
    have H':=zz H
    clear H
    have h11:wr.cell? ⟨g0,0,none⟩=some (.slice A0 l2.length c0):=(zj B0.1 0).trans rfl
    have h12:wr.cell? ⟨g0,1,none⟩=some (.slice A1 l3.length c1):=(zj B0.1 1).trans rfl
    have h13:=zu B0.1 0
    have h14:=zu B0.1 1
    go_wp2
    repeat (go_quiet (fail);try go_wp2)
    go_loopg [4] k1 (fun kq v4 w'=>∃(x1:Int),v4= .int .i64 x1∧Z0 (spec_DiskOk.l1 kq x1 l2 l3=some r)∧Z0 (kq≤k1)∧Z0 (w'.heap[g0]?=some (.cells #[(.slice A0 l2.length c0),(.slice A1 l3.length c1)] 37 (0,0)))∧Z0 (Below w.heap.size w w'))
    case atStart=>exact ⟨(0),zq18,H',⟨z3a _⟩,⟨by (with_reducible repeat (first|refine zk ?_ _|refine zl ?_|refine zh ?_ _));exact B0.1⟩,⟨zq4 G0.1⟩⟩
    case round=>
     clear H'
     try clear c3
     try clear c3b0
     try clear c4
     try clear c4b0
     try clear c5
     try clear c5b0
     try clear c5b1
     try clear h3
     try clear h4
     try clear h7
     try clear h8
     try clear h11
     try clear h12
     try clear h5
     try clear h6
     try clear h9
     try clear h10
     try clear h13
     try clear h14
     try clear k0
     try clear p0
     try clear q0
     obtain ⟨x1,rfl,HA,HK2,B0,HB⟩:=hrel
     cases gk with
     |zero=>exact absurd HA.1 (by simp [spec_DiskOk.l1])
     |succ k2=>
      have H:=HA.1
      clear HA
      simp only [spec_DiskOk.l1] at H
      by_cases c9:x1<(l3.length:Int)
      ·rw [if_pos c9] at H
       have c9b0:=z6 c9
       clear c9
       by_cases c10:0≤x1
       ·rw [if_pos c10] at H
        have c10b0:=z6 c10
        clear c10
        replace H:=z2a H
        obtain ⟨t0,A2,H⟩:=H
        replace H:(if t0=true then (if (((zv l3 x1).f1).size:Int)>240 then (some false) else (spec_DiskOk.l1 k2 (wrap64 (x1+1)) l2 l3)) else (some false))=some r:=H
        have A4:=zz A2
        clear A2
        by_cases c11:t0=true
        ·subst c11
         rw [if_pos rfl] at H
         by_cases c14:(((zv l3 x1).f1).size:Int)>240
         ·rw [if_pos c14] at H
          have c15:decide (240<(((zv l3 x1).f1).size:Int))=true:=z6 c14
          have c16:decide (240<((zv l3 x1).f1).size)=true:=z6 zq9
          clear c14
          obtain rfl:=z6a H
          have hcz14_0:wr.cell? ⟨g0,0,none⟩=some (.slice A0 l2.length c0):=(zj B0.1 0).trans rfl
          have hcz14_1:wr.cell? ⟨g0,1,none⟩=some (.slice A1 l3.length c1):=(zj B0.1 1).trans rfl
          have hfz14_0:=zu B0.1 0
          have hfz14_1:=zu B0.1 1
          have p1:0≤(x1:Int):=z8 zq21
          have q1:x1<(l3.length:Int):=z8 zq21
          obtain ⟨b1,e1,k3,k4⟩:=zIa R1.1 x1 p1 q1
          cases e1
          replace k3:=(HB.1.cell (z0a w _ k3)).trans k3
          replace k4:=(HB.1.cell (z0a w _ k4)).trans k4
          replace p1:=eq_true p1
          replace q1:=eq_true q1
          go_wp2_with (first|(go_at_call 77;(try simp only [zKa]);(with_reducible refine (spec_l01In.calls ((zv l3 x1).f0) 0 (wrap64 ((l2.length:Int)-1)) true _ A4.1).mono ?_);rintro e w' ⟨rfl,⟨nd,rfl⟩⟩;(try first|exact ⟨rfl,_,World.drewN_drewN _ _ _⟩|exact ⟨rfl,_,Eq.trans (World.drewN_drewN _ _ _) (congrArg (World.drewN _) (Nat.add_assoc _ _ _))⟩);have p2:0≤(x1:Int):=z8 zq21;have q2:x1<(l3.length:Int):=z8 zq21;obtain ⟨b2,e2,k5,k6⟩:=zIa R1.1 x1 p2 q2;obtain rfl:b1=b2:=(by injection e2);replace k5:=(HB.1.cell (z0a w _ k5)).trans k5;replace k6:=(HB.1.cell (z0a w _ k6)).trans k6;replace p2:=eq_true p2;replace q2:=eq_true q2))
          repeat (go_quiet (first|(go_at_call 77;(try simp only [zKa]);(with_reducible refine (spec_l01In.calls ((zv l3 x1).f0) 0 (wrap64 ((l2.length:Int)-1)) true _ A4.1).mono ?_);rintro e w' ⟨rfl,⟨nd,rfl⟩⟩;(try first|exact ⟨rfl,_,World.drewN_drewN _ _ _⟩|exact ⟨rfl,_,Eq.trans (World.drewN_drewN _ _ _) (congrArg (World.drewN _) (Nat.add_assoc _ _ _))⟩);have p2:0≤(x1:Int):=z8 zq21;have q2:x1<(l3.length:Int):=z8 zq21;obtain ⟨b2,e2,k5,k6⟩:=zIa R1.1 x1 p2 q2;obtain rfl:b1=b2:=(by injection e2);replace k5:=(HB.1.cell (z0a w _ k5)).trans k5;replace k6:=(HB.1.cell (z0a w _ k6)).trans k6;replace p2:=eq_true p2;replace q2:=eq_true q2));try go_wp2_with (first|(go_at_call 77;(try simp only [zKa]);(with_reducible refine (spec_l01In.calls ((zv l3 x1).f0) 0 (wrap64 ((l2.length:Int)-1)) true _ A4.1).mono ?_);rintro e w' ⟨rfl,⟨nd,rfl⟩⟩;(try first|exact ⟨rfl,_,World.drewN_drewN _ _ _⟩|exact ⟨rfl,_,Eq.trans (World.drewN_drewN _ _ _) (congrArg (World.drewN _) (Nat.add_assoc _ _ _))⟩);have p2:0≤(x1:Int):=z8 zq21;have q2:x1<(l3.length:Int):=z8 zq21;obtain ⟨b2,e2,k5,k6⟩:=zIa R1.1 x1 p2 q2;obtain rfl:b1=b2:=(by injection e2);replace k5:=(HB.1.cell (z0a w _ k5)).trans k5;replace k6:=(HB.1.cell (z0a w _ k6)).trans k6;replace p2:=eq_true p2;replace q2:=eq_true q2)))
          exact zq153
         ·rw [if_neg c14] at H
          have c15:decide (240<(((zv l3 x1).f1).size:Int))=false:=z7 c14
          have c16:decide (240<((zv l3 x1).f1).size)=false:=z7 zq9
          clear c14
          have H':=zz H
          clear H
          have hcz15_0:wr.cell? ⟨g0,0,none⟩=some (.slice A0 l2.length c0):=(zj B0.1 0).trans rfl
          have hcz15_1:wr.cell? ⟨g0,1,none⟩=some (.slice A1 l3.length c1):=(zj B0.1 1).trans rfl
          have hfz15_0:=zu B0.1 0
          have hfz15_1:=zu B0.1 1
          have p1:0≤(x1:Int):=z8 zq21
          have q1:x1<(l3.length:Int):=z8 zq21
          obtain ⟨b1,e1,k3,k4⟩:=zIa R1.1 x1 p1 q1
          cases e1
          replace k3:=(HB.1.cell (z0a w _ k3)).trans k3
          replace k4:=(HB.1.cell (z0a w _ k4)).trans k4
          replace p1:=eq_true p1
          replace q1:=eq_true q1
          go_wp2_with (first|(go_at_call 77;(try simp only [zKa]);(with_reducible refine (spec_l01In.calls ((zv l3 x1).f0) 0 (wrap64 ((l2.length:Int)-1)) true _ A4.1).mono ?_);rintro e w' ⟨rfl,⟨nd,rfl⟩⟩;(try first|exact ⟨rfl,_,World.drewN_drewN _ _ _⟩|exact ⟨rfl,_,Eq.trans (World.drewN_drewN _ _ _) (congrArg (World.drewN _) (Nat.add_assoc _ _ _))⟩);have p2:0≤(x1:Int):=z8 zq21;have q2:x1<(l3.length:Int):=z8 zq21;obtain ⟨b2,e2,k5,k6⟩:=zIa R1.1 x1 p2 q2;obtain rfl:b1=b2:=(by injection e2);replace k5:=(HB.1.cell (z0a w _ k5)).trans k5;replace k6:=(HB.1.cell (z0a w _ k6)).trans k6;replace p2:=eq_true p2;replace q2:=eq_true q2))
          repeat (go_quiet (first|(go_at_call 77;(try simp only [zKa]);(with_reducible refine (spec_l01In.calls ((zv l3 x1).f0) 0 (wrap64 ((l2.length:Int)-1)) true _ A4.1).mono ?_);rintro e w' ⟨rfl,⟨nd,rfl⟩⟩;(try first|exact ⟨rfl,_,World.drewN_drewN _ _ _⟩|exact ⟨rfl,_,Eq.trans (World.drewN_drewN _ _ _) (congrArg (World.drewN _) (Nat.add_assoc _ _ _))⟩);have p2:0≤(x1:Int):=z8 zq21;have q2:x1<(l3.length:Int):=z8 zq21;obtain ⟨b2,e2,k5,k6⟩:=zIa R1.1 x1 p2 q2;obtain rfl:b1=b2:=(by injection e2);replace k5:=(HB.1.cell (z0a w _ k5)).trans k5;replace k6:=(HB.1.cell (z0a w _ k6)).trans k6;replace p2:=eq_true p2;replace q2:=eq_true q2));try go_wp2_with (first|(go_at_call 77;(try simp only [zKa]);(with_reducible refine (spec_l01In.calls ((zv l3 x1).f0) 0 (wrap64 ((l2.length:Int)-1)) true _ A4.1).mono ?_);rintro e w' ⟨rfl,⟨nd,rfl⟩⟩;(try first|exact ⟨rfl,_,World.drewN_drewN _ _ _⟩|exact ⟨rfl,_,Eq.trans (World.drewN_drewN _ _ _) (congrArg (World.drewN _) (Nat.add_assoc _ _ _))⟩);have p2:0≤(x1:Int):=z8 zq21;have q2:x1<(l3.length:Int):=z8 zq21;obtain ⟨b2,e2,k5,k6⟩:=zIa R1.1 x1 p2 q2;obtain rfl:b1=b2:=(by injection e2);replace k5:=(HB.1.cell (z0a w _ k5)).trans k5;replace k6:=(HB.1.cell (z0a w _ k6)).trans k6;replace p2:=eq_true p2;replace q2:=eq_true q2)))
          go_roundg k2
          case measure=>have:=HK1.1;have:=HK2.1;omega
          case rel=>exact ⟨(wrap64 (x1+1)),zq18,H',⟨by have:=HK1.1;have:=HK2.1;omega⟩,⟨by (with_reducible repeat (first|refine zk ?_ _|refine zl ?_|refine zh ?_ _));exact B0.1⟩,⟨zq4 G0.1⟩⟩
        ·replace c11:=Bool.eq_false_iff.mpr c11
         subst c11
         rw [if_neg (show ¬(false=true) by decide)] at H
         obtain rfl:=z6a H
         have hcz16_0:wr.cell? ⟨g0,0,none⟩=some (.slice A0 l2.length c0):=(zj B0.1 0).trans rfl
         have hcz16_1:wr.cell? ⟨g0,1,none⟩=some (.slice A1 l3.length c1):=(zj B0.1 1).trans rfl
         have hfz16_0:=zu B0.1 0
         have hfz16_1:=zu B0.1 1
         have p1:0≤(x1:Int):=z8 zq21
         have q1:x1<(l3.length:Int):=z8 zq21
         obtain ⟨b1,e1,k3,k4⟩:=zIa R1.1 x1 p1 q1
         cases e1
         replace k3:=(HB.1.cell (z0a w _ k3)).trans k3
         replace k4:=(HB.1.cell (z0a w _ k4)).trans k4
         replace p1:=eq_true p1
         replace q1:=eq_true q1
         go_wp2_with (first|(go_at_call 77;(try simp only [zKa]);(with_reducible refine (spec_l01In.calls ((zv l3 x1).f0) 0 (wrap64 ((l2.length:Int)-1)) false _ A4.1).mono ?_);rintro e w' ⟨rfl,⟨nd,rfl⟩⟩;(try first|exact ⟨rfl,_,World.drewN_drewN _ _ _⟩|exact ⟨rfl,_,Eq.trans (World.drewN_drewN _ _ _) (congrArg (World.drewN _) (Nat.add_assoc _ _ _))⟩)))
         repeat (go_quiet (first|(go_at_call 77;(try simp only [zKa]);(with_reducible refine (spec_l01In.calls ((zv l3 x1).f0) 0 (wrap64 ((l2.length:Int)-1)) false _ A4.1).mono ?_);rintro e w' ⟨rfl,⟨nd,rfl⟩⟩;(try first|exact ⟨rfl,_,World.drewN_drewN _ _ _⟩|exact ⟨rfl,_,Eq.trans (World.drewN_drewN _ _ _) (congrArg (World.drewN _) (Nat.add_assoc _ _ _))⟩)));try go_wp2_with (first|(go_at_call 77;(try simp only [zKa]);(with_reducible refine (spec_l01In.calls ((zv l3 x1).f0) 0 (wrap64 ((l2.length:Int)-1)) false _ A4.1).mono ?_);rintro e w' ⟨rfl,⟨nd,rfl⟩⟩;(try first|exact ⟨rfl,_,World.drewN_drewN _ _ _⟩|exact ⟨rfl,_,Eq.trans (World.drewN_drewN _ _ _) (congrArg (World.drewN _) (Nat.add_assoc _ _ _))⟩))))
         exact zq153
       ·rw [if_neg c10] at H
        exact absurd H zq38
      ·rw [if_neg c9] at H
       have c9b0:=z7 c9
       clear c9
       replace H:=z2a H
       obtain ⟨t1,A5,H⟩:=H
       replace H:(if t1=true then (some (decide ((l3.length:Int)≤200))) else (some false))=some r:=H
       have A6:=zz A5
       clear A5
       by_cases c17:t1=true
       ·subst c17
        rw [if_pos rfl] at H
        obtain rfl:=z6a H
        have hcz19_0:wr.cell? ⟨g0,0,none⟩=some (.slice A0 l2.length c0):=(zj B0.1 0).trans rfl
        have hcz19_1:wr.cell? ⟨g0,1,none⟩=some (.slice A1 l3.length c1):=(zj B0.1 1).trans rfl
        have hfz19_0:=zu B0.1 0
        have hfz19_1:=zu B0.1 1
        go_wp2_with (first|(go_at_call 77;(with_reducible refine (spec_l01In.calls (l2.length:Int) 4 40 true _ A6.1).mono ?_);rintro e w' ⟨rfl,⟨nd,rfl⟩⟩;(try first|exact ⟨rfl,_,World.drewN_drewN _ _ _⟩|exact ⟨rfl,_,Eq.trans (World.drewN_drewN _ _ _) (congrArg (World.drewN _) (Nat.add_assoc _ _ _))⟩)))
        repeat (go_quiet (first|(go_at_call 77;(with_reducible refine (spec_l01In.calls (l2.length:Int) 4 40 true _ A6.1).mono ?_);rintro e w' ⟨rfl,⟨nd,rfl⟩⟩;(try first|exact ⟨rfl,_,World.drewN_drewN _ _ _⟩|exact ⟨rfl,_,Eq.trans (World.drewN_drewN _ _ _) (congrArg (World.drewN _) (Nat.add_assoc _ _ _))⟩)));try go_wp2_with (first|(go_at_call 77;(with_reducible refine (spec_l01In.calls (l2.length:Int) 4 40 true _ A6.1).mono ?_);rintro e w' ⟨rfl,⟨nd,rfl⟩⟩;(try first|exact ⟨rfl,_,World.drewN_drewN _ _ _⟩|exact ⟨rfl,_,Eq.trans (World.drewN_drewN _ _ _) (congrArg (World.drewN _) (Nat.add_assoc _ _ _))⟩))))
        exact zq153
       ·replace c17:=Bool.eq_false_iff.mpr c17
        subst c17
        rw [if_neg (show ¬(false=true) by decide)] at H
        obtain rfl:=z6a H
        have hcz20_0:wr.cell? ⟨g0,0,none⟩=some (.slice A0 l2.length c0):=(zj B0.1 0).trans rfl
        have hcz20_1:wr.cell? ⟨g0,1,none⟩=some (.slice A1 l3.length c1):=(zj B0.1 1).trans rfl
        have hfz20_0:=zu B0.1 0
        have hfz20_1:=zu B0.1 1
        go_wp2_with (first|(go_at_call 77;(with_reducible refine (spec_l01In.calls (l2.length:Int) 4 40 false _ A6.1).mono ?_);rintro e w' ⟨rfl,⟨nd,rfl⟩⟩;(try first|exact ⟨rfl,_,World.drewN_drewN _ _ _⟩|exact ⟨rfl,_,Eq.trans (World.drewN_drewN _ _ _) (congrArg (World.drewN _) (Nat.add_assoc _ _ _))⟩)))
        repeat (go_quiet (first|(go_at_call 77;(with_reducible refine (spec_l01In.calls (l2.length:Int) 4 40 false _ A6.1).mono ?_);rintro e w' ⟨rfl,⟨nd,rfl⟩⟩;(try first|exact ⟨rfl,_,World.drewN_drewN _ _ _⟩|exact ⟨rfl,_,Eq.trans (World.drewN_drewN _ _ _) (congrArg (World.drewN _) (Nat.add_assoc _ _ _))⟩)));try go_wp2_with (first|(go_at_call 77;(with_reducible refine (spec_l01In.calls (l2.length:Int) 4 40 false _ A6.1).mono ?_);rintro e w' ⟨rfl,⟨nd,rfl⟩⟩;(try first|exact ⟨rfl,_,World.drewN_drewN _ _ _⟩|exact ⟨rfl,_,Eq.trans (World.drewN_drewN _ _ _) (congrArg (World.drewN _) (Nat.add_assoc _ _ _))⟩))))
        exact zq153
def spec_WritePage.f (k:Nat) (l0_0:List ByteArray) (l0_1:List (S110)) (a1:Int) (a2:ByteArray):Option (List ByteArray×(List (S110))×Bool):=(spec_l03Copy.f l0_0 l0_1).bind fun bt316=>((spec_DiskOk.f k l0_0 l0_1).bind fun t323=>(if t323=true then ((spec_l01In.f a1 0 (wrap64 ((l0_0.length:Int)-1))).bind fun t324=>(if t324=true then (if (a2.size:Int)>240 then (some (bt316.1,bt316.2,false)) else (if (l0_1.length:Int)=200 then (some (bt316.1,bt316.2,false)) else (if bt316.2.length<5864062014805 then (some (bt316.1,(bt316.2++[(⟨a1,a2⟩:S110)]),true)) else (none)))) else (some (bt316.1,bt316.2,false)))) else (some (bt316.1,bt316.2,false))))
end Go.Proofs.YtonhdiemjgdcnaaGreat.PFnExactGivePage
namespace Go.Proofs.YtonhdiemjgdcnaaGreat.PFnExactGivePage
open Go.RowKit Go.Shelf Go.Proofs.YtonhdiemjgdcnaaGreatW.PrintWords Go.Proofs.YtonhdiemjgdcnaaGreatW.PrintLast Go.Proofs.YtonhdiemjgdcnaaGreatW.PrintMore
attribute [local go_sem] zma zla zwa zxa zba zca zoa zna
def idxF {α:Type} (p:α→Bool) (xs:List α):Int:=if xs.any p then (xs.findIdx p:Int) else-1
theorem idxF_hit {α:Type} {p:α→Bool} {xs:List α} {k:Nat} (hk:k<xs.length) (h:p xs[k]=true) (hb:∀j (hj:j<xs.length),j<k→p xs[j]=false):idxF p xs=(k:Int):=by
 unfold idxF
 rw [if_pos (List.any_eq_true.2 ⟨xs[k],List.getElem_mem hk,h⟩),(List.findIdx_eq hk).2 ⟨h,fun j hj=>hb j zq9 hj⟩]
theorem idxF_miss {α:Type} {p:α→Bool} {xs:List α} (hb:∀j (hj:j<xs.length),p xs[j]=false):idxF p xs= -1:=by
 unfold idxF
 rw [if_neg (fun h=>by
  obtain ⟨x,hx,hp⟩:=List.any_eq_true.1 h
  obtain ⟨j,hj,rfl⟩:=List.getElem_of_mem hx
  rw [hb j hj] at hp
  cases hp)]
theorem idxF_any {α:Type} (p:α→Bool) (xs:List α):decide (0≤idxF p xs)=xs.any p:=by
 unfold idxF
 cases h:xs.any p
 ·rfl
 ·simp
theorem rdOf_at {α:Type} (d:α) (xs:List α) (k:Nat) (hk:k<xs.length):zcc d xs (k:Int)=xs[k]:=by
 simp [zcc,List.getD_eq_getElem?_getD,List.getElem?_eq_getElem hk]
def PredB {α:Type} (g:Nat) (lb:Array Value) (enc:α→Value) (p:α→Bool) (w:World):Prop:=
 ∀(W:World) (x:α),Below w.heap.size w W→Calls Tryz.prog g (#[enc x]++lb) W fun e w'=>e= .returned (.bool (p x))∧Below w.heap.size w w'
theorem IndexFunc_string (g:Nat) (lb:Array Value) (p:ByteArray→Bool) (eg:∀args w,(callFunc g args).run Tryz.prog w= .ok (.enter g args) w) (A:Option Addr) (c:Nat) (xs:List ByteArray) (w:World)
  (hr:Kd.C Kd.string w A xs.length xs) (hp:PredB g lb Value.string p w):
  Calls Tryz.prog 148 #[.slice A xs.length c,.func (.func g) #[] lb] w fun e w'=>e= .returned (.int .i64 (idxF p xs))∧Below w.heap.size w w':=by
 have HR:=zz hr
 have HP:=zz hp
 have hbig:=hr.2.1
 clear hr hp
 go_enter Tryz.func148,Tryz.ntmps148
 go_wp2
 go_loopg [5,8] xs.length (fun gg _ s8 wr=>∃kk:Nat,kk≤xs.length∧xs.length-kk≤gg∧s8= .int .i64 kk∧Z0 (Below w.heap.size w wr)∧Z0 (∀j (hj:j<xs.length),j<kk→p xs[j]=false))
 case atStart=>exact ⟨0,z0b _,zq9,rfl,⟨z1a _ w⟩,⟨fun j hj h=>absurd h (Nat.not_lt_zero _)⟩⟩
 case round=>
  obtain ⟨kk,hkk,hg,rfl,BW,A0⟩:=hrel
  by_cases hlt:kk<xs.length
  ·have hltz:(kk:Int)<(xs.length:Int):=zq9
   obtain ⟨ad,rfl,hcell⟩:=Kd.at_string (Kd.C_below HR.1 BW.1) (kk:Int) zq9 hltz
   rw [rdOf_at _ _ _ hlt,Int.toNat_natCast] at hcell
   have hcall:=HP.1 wr xs[kk] BW.1
   obtain ⟨y,hy⟩:∃y,xs[kk]=y:=⟨_,rfl⟩
   rw [hy] at hcell hcall
   have B:=zz hy
   clear hy
   exact zq149
  ·exact zq199
theorem ContainsFunc_string (g:Nat) (lb:Array Value) (p:ByteArray→Bool) (eg:∀args w,(callFunc g args).run Tryz.prog w= .ok (.enter g args) w) (A:Option Addr) (c:Nat) (xs:List ByteArray) (w:World)
  (hr:Kd.C Kd.string w A xs.length xs) (hp:PredB g lb Value.string p w):
  Calls Tryz.prog 126 #[.slice A xs.length c,.func (.func g) #[] lb] w fun e w'=>e= .returned (.bool (xs.any p))∧Below w.heap.size w w':=by
 rw [←idxF_any]
 have HI:=zz (IndexFunc_string g lb p eg A c xs w hr hp)
 clear hr hp
 generalize idxF p xs=r at HI ⊢
 go_enter Tryz.func126,Tryz.ntmps126
 go_wp2_with fail
 ((with_reducible refine HI.1.mono ?_);rintro e w' ⟨rfl,hb'⟩)
 go_wp2
 go_ret
 exact ⟨rfl,hb'⟩
theorem rdP_nat (xs:List S110) (k:Nat) (hk:k<xs.length):zv xs (k:Int)=xs[k]:=by
 simp [zv,List.getD_eq_getElem?_getD,List.getElem?_eq_getElem hk]
def encP (x:S110):Value:= .agg #[.int .i64 x.f0,.string x.f1]
theorem IndexFunc_pair (g:Nat) (lb:Array Value) (p:S110→Bool) (eg:∀args w,(callFunc g args).run Tryz.prog w= .ok (.enter g args) w) (A:Option Addr) (c:Nat) (xs:List S110) (w:World)
  (hr:Kd.C k110 w A xs.length xs) (hp:PredB g lb encP p w):
  Calls Tryz.prog 149 #[.slice A xs.length c,.func (.func g) #[] lb] w fun e w'=>e= .returned (.int .i64 (idxF p xs))∧Below w.heap.size w w':=by
 have HR:=zz hr
 have HP:=zz hp
 have hbig:=hr.2.1
 clear hr hp
 go_enter Tryz.func149,Tryz.ntmps149
 go_wp2
 go_loopg [5,8] xs.length (fun gg _ s8 wr=>∃kk:Nat,kk≤xs.length∧xs.length-kk≤gg∧s8= .int .i64 kk∧Z0 (Below w.heap.size w wr)∧Z0 (∀j (hj:j<xs.length),j<kk→p xs[j]=false))
 case atStart=>exact ⟨0,z0b _,zq9,rfl,⟨z1a _ w⟩,⟨fun j hj h=>absurd h (Nat.not_lt_zero _)⟩⟩
 case round=>
  obtain ⟨kk,hkk,hg,rfl,BW,A0⟩:=hrel
  by_cases hlt:kk<xs.length
  ·have hltz:(kk:Int)<(xs.length:Int):=zq9
   obtain ⟨ad,rfl,hcell,hcell1⟩:=zIa (Kd.C_below HR.1 BW.1) (kk:Int) zq9 hltz
   rw [rdP_nat _ _ hlt,Int.toNat_natCast] at hcell hcell1
   have hcall:=HP.1 wr xs[kk] BW.1
   obtain ⟨y,hy⟩:∃y,xs[kk]=y:=⟨_,rfl⟩
   rw [hy] at hcell hcell1 hcall
   have B:=zz hy
   clear hy
   unfold encP at hcall
   exact zq149
  ·exact zq199
theorem ContainsFunc_pair (g:Nat) (lb:Array Value) (p:S110→Bool) (eg:∀args w,(callFunc g args).run Tryz.prog w= .ok (.enter g args) w) (A:Option Addr) (c:Nat) (xs:List S110) (w:World)
  (hr:Kd.C k110 w A xs.length xs) (hp:PredB g lb encP p w):
  Calls Tryz.prog 128 #[.slice A xs.length c,.func (.func g) #[] lb] w fun e w'=>e= .returned (.bool (xs.any p))∧Below w.heap.size w w':=by
 rw [←idxF_any]
 have HI:=zz (IndexFunc_pair g lb p eg A c xs w hr hp)
 clear hr hp
 generalize idxF p xs=r at HI ⊢
 go_enter Tryz.func128,Tryz.ntmps128
 go_wp2_with fail
 ((with_reducible refine HI.1.mono ?_);rintro e w' ⟨rfl,hb'⟩)
 go_wp2
 go_ret
 exact ⟨rfl,hb'⟩
def bigT (s:ByteArray):Bool:=decide ((s.size:Int)>240)
theorem predBig (w:World):PredB 127 #[] Value.string bigT w:=fun W x hb=>by
 show Calls Tryz.prog 127 #[.string x] W _
 go_enter Tryz.func127,Tryz.ntmps127
 go_wp2
 all_goals (go_ret;exact ⟨by first|rfl|simp_all [bigT],hb⟩)
theorem enters123:∀args w,(callFunc 127 args).run Tryz.prog w= .ok (.enter 127 args) w:=enters_of Tryz.func127 zq13 rfl
def badP (n:Nat) (p:S110):Bool:= !inB p.f0 0 ((n:Int)-1)||bigT p.f1
theorem predPut (l0:List ByteArray) (l1:List S110) (B:Nat) (w:World) {A0 A1:Option Addr} {c0 c1:Nat} (hbox:w.heap[B]?=some (.cells #[.slice A0 l0.length c0,.slice A1 l1.length c1] 37 (0,0)))
  (m0:l0.length≤c0) (r0:Kd.C Kd.string w A0 l0.length l0) (m1:l1.length≤c1) (r1:Kd.C k110 w A1 l1.length l1) (hl:l0.length≤9223372036854775807):
  PredB 129 #[.pointer (some ⟨B,0,none⟩)] encP (badP l0.length) w:=fun W x hb=>by
 have hw1:wrap64 ((l0.length:Int)-1)=(l0.length:Int)-1:=by unfold wrap64;omega
 have HC:=zz (impl_isPage.calls A0 c0 l0 A1 c1 l1 x.f0 (inB x.f0 0 ((l0.length:Int)-1)) (W.alloc (.cells #[.int .i64 x.f0,.string x.f1] 110)) (Kd.C_below r0 (zo hb _)) m0 (Kd.C_below r1 (zo hb _)) m1 (by
  unfold impl_isPage.f impl_in.f inB
  rw [hw1]
  by_cases h:(0:Int)≤x.f0
  ·rw [if_pos h,decide_eq_true h];rfl
  ·rw [if_neg h,decide_eq_false h];rfl))
 have hb2:=zo hb (.cells #[.int .i64 x.f0,.string x.f1] 110)
 have hB:=zP hbox
 have bx:=zg hbox hb2
 have g0:(W.alloc (.cells #[.int .i64 x.f0,.string x.f1] 110)).cell? ⟨B,0,none⟩=some (.slice A0 l0.length c0):=by rw [zj bx];rfl
 have g1:(W.alloc (.cells #[.int .i64 x.f0,.string x.f1] 110)).cell? ⟨B,1,none⟩=some (.slice A1 l1.length c1):=by rw [zj bx];rfl
 have p0:(W.alloc (.cells #[.int .i64 x.f0,.string x.f1] 110)).cell? ⟨W.heap.size,0,none⟩=some (.int .i64 x.f0):=by rw [World.cell?_alloc_at _ _ _ _ rfl];rfl
 have bx2:(W.alloc (.cells #[.int .i64 x.f0,.string x.f1] 110)).heap[W.heap.size]?=some (.cells #[.int .i64 x.f0,.string x.f1] 110 (0,0)):=zqa W _
 have BX2:=zz bx2
 have HB2:=zz hb2
 have p1:(W.alloc (.cells #[.int .i64 x.f0,.string x.f1] 110)).cell? ⟨W.heap.size,1,none⟩=some (.string x.f1):=by rw [zj bx2];rfl
 have e_:badP l0.length x=(!inB x.f0 0 ((l0.length:Int)-1)||bigT x.f1):=rfl
 rw [e_]
 unfold encP
 clear hbox bx bx2 hb2 r0 r1 e_ hw1
 generalize inB x.f0 0 ((l0.length:Int)-1)=bb at HC ⊢
 have HX:=zz (show ∀w1,Below (W.alloc (.cells #[.int .i64 x.f0,.string x.f1] 110)).heap.size (W.alloc (.cells #[.int .i64 x.f0,.string x.f1] 110)) w1→w1.cell? ⟨W.heap.size,1,none⟩=some (.string x.f1) from fun w1 hb=>by rw [zj (zg BX2.1 hb)];rfl)
 show Calls Tryz.prog 129 #[.agg #[.int .i64 x.f0,.string x.f1],.pointer (some ⟨B,0,none⟩)] W _
 cases bb<;>(
  go_enter Tryz.func129,Tryz.ntmps129
  go_wp2_with ((with_reducible refine HC.1.mono ?_);rintro e w1 ⟨rfl,hb1⟩;have p2:=HX.1 w1 hb1;have HB1:=zz hb1;clear hb1)
  all_goals (go_ret;exact ⟨by first|rfl|simp_all [bigT],ze HB2.1 HB1.1⟩))
theorem enters125:∀args w,(callFunc 129 args).run Tryz.prog w= .ok (.enter 129 args) w:=enters_of Tryz.func129 zq13 rfl
def DOk (l0:List ByteArray) (l1:List S110):Bool:=inB (l0.length:Int) 4 40&& !decide ((l1.length:Int)>200)&& !l0.any bigT&& !l1.any (badP l0.length)
def impl_DiskOk.f (l0_0:List ByteArray) (l0_1:List S110):Option Bool:=some (DOk l0_0 l0_1)
theorem impl_DiskOk.calls (A0:Option Addr) (c0:Nat) (l2:List ByteArray) (A1:Option Addr) (c1:Nat) (l3:List S110) (r:Bool) (w:World) (r0:Kd.C Kd.string w A0 l2.length l2) (h0:l2.length≤c0) (r1:Kd.C k110 w A1 l3.length l3) (h2:l3.length≤c1) (h:impl_DiskOk.f l2 l3=some r):
  Calls Tryz.prog 103 #[.agg #[.slice A0 l2.length c0,.slice A1 l3.length c1]] w fun e w'=>e= .returned (.bool r)∧Below w.heap.size w w':=by
 obtain rfl:=z6a h
 have hn:=r0.2.1
 obtain ⟨w1,hw1⟩:∃w1,w1=w.alloc (.cells #[.slice A0 l2.length c0,.slice A1 l3.length c1] 37):=⟨_,rfl⟩
 have bl:Below w.heap.size w w1:=by rw [hw1];exact zo (z1a _ w) _
 have bx:w1.heap[w.heap.size]?=some (.cells #[.slice A0 l2.length c0,.slice A1 l3.length c1] 37 (0,0)):=by rw [hw1];exact zqa w _
 have HB:=zz bl
 have HE:=zz (show DOk l2 l3=(inB (l2.length:Int) 4 40&& !decide ((l3.length:Int)>200)&& !l2.any bigT&& !l3.any (badP l2.length)) from rfl)
 rw [HE.1]
 obtain ⟨b2,e2⟩:∃b,b=l2.any bigT:=⟨_,rfl⟩
 obtain ⟨b3,e3⟩:∃b,b=l3.any (badP l2.length):=⟨_,rfl⟩
 obtain ⟨b0,e0⟩:∃b,b=inB (l2.length:Int) 4 40:=⟨_,rfl⟩
 have HI:=zz (show ∀W,Calls Tryz.prog 118 #[.int .i64 (l2.length:Int),.int .i64 4,.int .i64 40] W fun e w'=>e= .returned (.bool b0)∧W=w' from fun W=>by rw [e0];exact inI _ _ _ W)
 have HS:=zz (show ∀W,Below w.heap.size w W→Calls Tryz.prog 126 #[.slice A0 l2.length c0,.func (.func 127) #[] #[]] W fun e w'=>e= .returned (.bool b2)∧Below W.heap.size W w' from fun W hb=>by rw [e2];exact ContainsFunc_string 127 #[] bigT enters123 A0 c0 l2 W (Kd.C_below r0 hb) (predBig W))
 have HP:=zz (show ∀W,Below w1.heap.size w1 W→Calls Tryz.prog 128 #[.slice A1 l3.length c1,.func (.func 129) #[] #[.pointer (some ⟨w.heap.size,0,none⟩)]] W fun e w'=>e= .returned (.bool b3)∧Below W.heap.size W w' from fun W hb=>by
  rw [e3]
  exact ContainsFunc_pair 129 #[.pointer (some ⟨w.heap.size,0,none⟩)] (badP l2.length) enters125 A1 c1 l3 W (Kd.C_below (Kd.C_below r1 bl) hb) (predPut l2 l3 w.heap.size W (zg bx hb) h0 (Kd.C_below (Kd.C_below r0 bl) hb) h2 (Kd.C_below (Kd.C_below r1 bl) hb) hn))
 rw [←e0,←e2,←e3]
 have HC:=zz (show ∀W,Below w1.heap.size w1 W→W.cell? ⟨w.heap.size,0,none⟩=some (.slice A0 l2.length c0)∧W.cell? ⟨w.heap.size,1,none⟩=some (.slice A1 l3.length c1) from fun W hb=>by
  have g:=zg bx hb
  exact ⟨by rw [zj g];rfl,by rw [zj g];rfl⟩)
 have H1:=zz hw1
 clear e0 e2 e3 bl bx r0 r1 hw1 h HE
 by_cases h1:(l3.length:Int)>200
 ·have q1:=z6 h1
  have D1:=zz q1
  clear h1
  cases b0<;>(
   go_enter Tryz.func103,Tryz.ntmps103
   go_wp2_with ((with_reducible refine (HI.1 _).mono ?_);rintro e w2 ⟨rfl,rfl⟩)
   all_goals (go_ret;exact ⟨zq40 D1.1,by rw [←H1.1];exact HB.1⟩))
 ·have q1:=z7 h1
  have D1:=zz q1
  clear h1
  cases b0 with
  |false=>
   go_enter Tryz.func103,Tryz.ntmps103
   go_wp2_with ((with_reducible refine (HI.1 _).mono ?_);rintro e w2 ⟨rfl,rfl⟩)
   all_goals (go_ret;exact ⟨zq22,by rw [←H1.1];exact HB.1⟩)
  |true=>
   cases b2 with
   |true=>
    go_enter Tryz.func103,Tryz.ntmps103
    go_wp2_with (first|((with_reducible refine (HI.1 _).mono ?_);rintro e w2 ⟨rfl,rfl⟩)|((with_reducible refine (HS.1 _ (by rw [←H1.1];exact HB.1)).mono ?_);rintro e w2 ⟨rfl,hb⟩;rw [←H1.1] at hb;have HB2:=zz hb;clear hb))
    all_goals (go_ret;exact ⟨zq40 D1.1,ze HB.1 HB2.1⟩)
   |false=>
    cases b3<;>(
     go_enter Tryz.func103,Tryz.ntmps103
     go_wp2_with (first|((with_reducible refine (HI.1 _).mono ?_);rintro e w2 ⟨rfl,rfl⟩)|((with_reducible refine (HS.1 _ (by rw [←H1.1];exact HB.1)).mono ?_);rintro e w2 ⟨rfl,hb⟩;rw [←H1.1] at hb;have HB2:=zz hb;obtain ⟨g0,g1⟩:=HC.1 _ hb;clear hb)|((with_reducible refine (HP.1 _ HB2.1).mono ?_);rintro e w3 ⟨rfl,hb⟩;have HB3:=zz hb;clear hb))
     all_goals (go_ret;exact ⟨zq40 D1.1,ze (ze HB.1 HB2.1) HB3.1⟩))
end Go.Proofs.YtonhdiemjgdcnaaGreat.PFnExactGivePage
namespace Go.Proofs.YtonhdiemjgdcnaaGreat.PFnExactGivePage
open Go.RowKit Go.Proofs.YtonhdiemjgdcnaaGreatW.PrintWords Go.Proofs.YtonhdiemjgdcnaaGreatW.PrintLast Go.Proofs.YtonhdiemjgdcnaaGreatW.PrintMore
attribute [local go_sem] zma zla zwa zxa zba zca zoa zna
def impl_WritePage.f (l0_0:List ByteArray) (l0_1:List (S110)) (a1:Int) (a2:ByteArray):Option (List ByteArray×(List (S110))×Bool):=(impl_cloneDisk.f l0_0 l0_1).bind fun bt447=>((impl_DiskOk.f l0_0 l0_1).bind fun t454=>(if t454=true then ((impl_isPage.f l0_0 l0_1 a1).bind fun t455=>(if t455=true then (if (a2.size:Int)>240 then (some (bt447.1,bt447.2,false)) else (if (l0_1.length:Int)≥200 then (some (bt447.1,bt447.2,false)) else (if bt447.2.length<5864062014805 then (some (bt447.1,(bt447.2++[(⟨a1,a2⟩:S110)]),true)) else (none)))) else (some (bt447.1,bt447.2,false)))) else (some (bt447.1,bt447.2,false))))
def Two {α β:Type} (w w':World) (d:Kd α) (x:α) (ds:List Value) (d2:Kd β) (y:β) (es:List Value):Prop:=∃a1 b1 a2 b2:Nat,((w.heap.size≤a1∧a1≤b1∧b1≤w'.heap.size)∧(w.heap.size≤a2∧a2≤b2∧b2≤w'.heap.size)∧(b1≤a2∨b2≤a1))∧d.M w' w.heap.size (fun k=>True∧Iv a1 b1 k) x ds∧d2.M w' w.heap.size (fun k=>True∧Iv a2 b2 k) y es
def zRb (d:(S40×(List ByteArray×List S110×Int×List Int×List Int×List Int)×Int)):Bool:=decide (d.2.2=d.1.f1)&&decide (d.2.1.2.2.2.2.1.length=0)
theorem idleI_c (y:S40) (l0:List ByteArray) (l1:List S110) (l2:Int) (l3 l4 l5:List Int) (n:Int) {cs:List Value} (w:World) (h:kTxn.K w (y,(l0,l1,l2,l3,l4,l5),n) cs):Calls Tryz.prog 42 #[.agg cs.toArray] w fun e w'=>e= .returned (.bool (zRb (y,(l0,l1,l2,l3,l4,l5),n)))∧Below w.heap.size w w':=by
 obtain ⟨cM,_,rfl,hM,cW,cI,rfl,hW,hI⟩:=h
 obtain rfl:cI=[.int .i64 n]:=hI
 obtain ⟨AF,cF,rfl,mF,rF⟩:=zEa hM
 obtain ⟨A0,c0,A1,c1,A3,c3,A4,c4,A5,c5,rfl,m0,r0,m1,r1,m3,r3,m4,r4,m5,r5⟩:=zac hW
 simp only [List.cons_append,List.nil_append]
 have e_:zRb (y,(l0,l1,l2,l3,l4,l5),n)=(decide (n=y.f1)&&decide (l4.length=0)):=rfl
 rw [e_]
 clear hM hW r0 r1 r3 r4 r5 rF e_
 by_cases h1:n=y.f1
 ·by_cases h2:l4.length=0
  ·have q2:((l4.length:Int)==0)=true:=beq_iff_eq.2 zq9
   have q1:(n==y.f1)=true:=beq_iff_eq.2 h1
   rw [decide_eq_true h1,decide_eq_true h2]
   clear h1 h2
   go_enter Tryz.func42,Tryz.ntmps42
   exact zq172
  ·have q2:((l4.length:Int)==0)=false:=beq_eq_false_iff_ne.2 zq9
   have q1:(n==y.f1)=true:=beq_iff_eq.2 h1
   rw [decide_eq_true h1,decide_eq_false h2]
   clear h1 h2
   go_enter Tryz.func42,Tryz.ntmps42
   exact zq172
 ·have q1:(n==y.f1)=false:=beq_eq_false_iff_ne.2 h1
  rw [decide_eq_false h1]
  clear h1
  go_enter Tryz.func42,Tryz.ntmps42
  exact zq172
theorem idleS_c (y:S40) (l0:List ByteArray) (l1:List S110) (l2:Int) (l3 l4 l5:List Int) (n:Int) {cs:List Value} (w:World) (h:kTxn.K w (y,(l0,l1,l2,l3,l4,l5),n) cs):Calls Tryz.prog 32 #[.agg cs.toArray] w fun e w'=>e= .returned (.bool (zRb (y,(l0,l1,l2,l3,l4,l5),n)))∧Below w.heap.size w w':=by
 obtain ⟨cM,_,rfl,hM,cW,cI,rfl,hW,hI⟩:=h
 obtain rfl:cI=[.int .i64 n]:=hI
 obtain ⟨AF,cF,rfl,mF,rF⟩:=zEa hM
 obtain ⟨A0,c0,A1,c1,A3,c3,A4,c4,A5,c5,rfl,m0,r0,m1,r1,m3,r3,m4,r4,m5,r5⟩:=zac hW
 simp only [List.cons_append,List.nil_append]
 have e_:zRb (y,(l0,l1,l2,l3,l4,l5),n)=(decide (n=y.f1)&&decide (l4.length=0)):=rfl
 rw [e_]
 clear hM hW r0 r1 r3 r4 r5 rF e_
 by_cases h1:n=y.f1
 ·by_cases h2:l4.length=0
  ·have q2:((l4.length:Int)==0)=true:=beq_iff_eq.2 zq9
   have q1:(n==y.f1)=true:=beq_iff_eq.2 h1
   rw [decide_eq_true h1,decide_eq_true h2]
   clear h1 h2
   go_enter Tryz.func32,Tryz.ntmps32
   exact zq172
  ·have q2:((l4.length:Int)==0)=false:=beq_eq_false_iff_ne.2 zq9
   have q1:(n==y.f1)=true:=beq_iff_eq.2 h1
   rw [decide_eq_true h1,decide_eq_false h2]
   clear h1 h2
   go_enter Tryz.func32,Tryz.ntmps32
   exact zq172
 ·have q1:(n==y.f1)=false:=beq_eq_false_iff_ne.2 h1
  rw [decide_eq_false h1]
  clear h1
  go_enter Tryz.func32,Tryz.ntmps32
  exact zq172
theorem pageI_c (tx:Int) (w:World) (h:0≤tx∧tx≤100000):Calls Tryz.prog 96 #[.int .i64 tx] w fun e w'=>e= .returned (.int .i64 (tx%2))∧Below w.heap.size w w':=by
 obtain ⟨m,rfl⟩:=Int.eq_ofNat_of_zero_le h.1
 have e_:Go.bits .and .i64 (m:Int) 1=((m:Int)%2):=by
  have hk:∀n:Int,0≤n→n<2^62→IntKind.i64.wrap n=n:=by
   intro n h0 h1
   rw [zKa,w64 h0 zq9]
  have:=(bits_nat .i64 62 zq31 hk m 1 zq9 zq31).1
  rw [Nat.and_one_is_mod] at this
  rw [show (1:Int)=((1:Nat):Int) from rfl,this]
  omega
 rw [←e_]
 clear e_ h
 go_enter Tryz.func96,Tryz.ntmps96
 go_wp2
 go_ret
 exact ⟨rfl,z1a _ _⟩
theorem pageS_c (tx:Int) (w:World) (h:0≤tx∧tx≤100000):Calls Tryz.prog 39 #[.int .i64 tx] w fun e w'=>e= .returned (.int .i64 (tx%2))∧Below w.heap.size w w':=by
 have e_:Int.tmod tx 2=tx%2:=Int.tmod_eq_emod_of_nonneg h.1
 by_cases h2:tx%2=0
 ·have q:(Int.tmod tx 2==0)=true:=beq_iff_eq.2 (e_.trans h2)
  rw [h2]
  clear e_ h2 h
  go_enter Tryz.func39,Tryz.ntmps39
  go_wp2
  go_ret
  exact ⟨rfl,z1a _ _⟩
 ·have q:(Int.tmod tx 2==0)=false:=beq_eq_false_iff_ne.2 (by rw [e_];exact h2)
  rw [show tx%2=1 by omega]
  clear e_ h2 h
  go_enter Tryz.func39,Tryz.ntmps39
  go_wp2
  go_ret
  exact ⟨rfl,z1a _ _⟩
end Go.Proofs.YtonhdiemjgdcnaaGreat.PFnExactGivePage
