import Derived.Test.YtonhdiemjgdcnaaOA1
import Derived.Test.YtonhdiemjgdcnaaProg
import Derived.Laws.Cover1
import Derived.WalkSpells
set_option maxHeartbeats 64000000
set_option maxRecDepth 100000
set_option linter.unusedVariables false
set_option linter.unusedSimpArgs false
namespace Go.Proofs
theorem zq0{P:Prop}(h:P:=by repeat (first|(with_reducible first|exact HB.1|apply zi|apply zG|apply zx)|exact HB.1)):P:=h
theorem zq1{P:Prop}(h:P:=by simp only [Act.put,List.setIfInBounds_toArray,List.set_cons_zero,List.set_cons_succ,zxa,i32_w];rfl):P:=h
theorem zq4{P Q0:Prop}(q0:Q0)(h:Q0→P:=by intro q0;repeat (first|(with_reducible first|exact HB.1|apply zi|apply zG|apply zx|refine zD ?_ q0)|exact HB.1)):P:=h q0
theorem zq5{P:Prop}(h:P:=by intro w';go_simp;with_reducible rfl):P:=h
theorem zq6{P:Prop}(h:P:=by (try simp only [List.map_toArray,List.map_cons,List.map_nil]);first|done|rfl|(simp only [List.length_drop,List.length_take];rfl)):P:=h
theorem zq7{P Q0:Prop}(q0:Q0)(h:Q0→P:=by intro q0;(with_reducible repeat (first|refine zC ?_ _|refine zH ?_|refine zo ?_ _));exact q0):P:=h q0
theorem zq8{P:Prop}(h:P:=by kernel_rfl):P:=h
theorem zq9{P:Prop}(h:P:=by first|rfl|(simp [zMa,zLa]<;>rfl)|(simp [*,zMa,zLa]<;>rfl)):P:=h
theorem zq10{P:Prop}(h:P:=by first|rfl|(simp;done)|(simp [*];done)):P:=h
theorem zq11{P:Prop}(h:P:=by with_reducible assumption):P:=h
theorem zq12{P:Prop}(h:P:=by rw [hg];exact (zL (by repeat (first|(with_reducible first|exact HB.1|apply zi|apply zG|apply zx)|exact HB.1)))):P:=h
theorem zq13{P Q0 Q1:Prop}(q0:Q0)(q1:Q1)(h:Q0→Q1→P:=by intro q0 q1;repeat (first|(with_reducible first|exact HB.1|apply zi|apply zG|apply zx|refine zD ?_ q0|refine zD ?_ q1)|exact HB.1)):P:=h q0 q1
theorem zq15{P:Prop}(h:P:=by repeat (first|exact Drawn0.refl _|apply Drawn0.step)):P:=h
theorem zq16{P:Prop}(h:P:=by first|(rw [i0];with_reducible exact H)|(have H2_:=(Option.bind_some _ _).symm.trans H;rw [i0];with_reducible exact H2_)|(have H2_:=(Option.bind_some _ _).symm.trans H;with_reducible exact H2_)|with_reducible exact H|(rw [i0];exact H)|exact H):P:=h
theorem zq19{P:Prop}(h:P:=by rfl):P:=h
theorem zq24{P Q0:Prop}(q0:Q0)(h:Q0→P:=by intro q0;rw [hg];exact (zL (by repeat (first|(with_reducible first|exact HB.1|apply zi|apply zG|apply zx|refine zD ?_ q0)|exact HB.1)))):P:=h q0
theorem zq25{P Q0 Q1 Q2:Prop}(q0:Q0)(q1:Q1)(q2:Q2)(h:Q0→Q1→Q2→P:=by intro q0 q1 q2;repeat (first|(with_reducible first|exact HB.1|apply zi|apply zG|apply zx|refine zD ?_ q0|refine zD ?_ q1|refine zD ?_ q2)|exact HB.1)):P:=h q0 q1 q2
theorem zq26{P:Prop}(h:P:=by first|(go_simp;done)|(go_simp;rfl)):P:=h
theorem zq27{P:Prop}(h:P:=by first|(rw [i1];with_reducible exact H)|(have H2_:=(Option.bind_some _ _).symm.trans H;rw [i1];with_reducible exact H2_)|(have H2_:=(Option.bind_some _ _).symm.trans H;with_reducible exact H2_)|with_reducible exact H|(rw [i1];exact H)|exact H):P:=h
theorem zq28{P Q0:Prop}(q0:Q0)(h:Q0→P:=by intro q0;(with_reducible repeat (first|apply Kd.R_alloc|apply Kd.R_drewN|apply Kd.R_drew));exact q0):P:=h q0
theorem zq32{P:Prop}(h:P:=by decide):P:=h
theorem zq33{P Q0 Q1 Q2:Prop}(q0:Q0)(q1:Q1)(q2:Q2)(h:Q0→Q1→Q2→P:=by intro q0 q1 q2;(with_reducible repeat (first|apply Kd.R_alloc|apply Kd.R_drewN|apply Kd.R_drew));exact Kd.R_mono (Kd.R_far (p:=⟨g1,1,none⟩) (Kd.R_far (p:=⟨g1,0,none⟩) (Kd.R_far (p:=⟨g2,1,none⟩) (Kd.R_types (Kd.R_types q0 q1 (by decide)) q2 (by decide)) (fun _ hk=>hk.1.2) (.slice A7 t1.length c12)) (fun _ hk=>hk.2) (.slice A6 t0.length c11)) (fun _ hk=>hk.2) (.slice A7 t1.length c12)) (fun _ hk=>trivial)):P:=h q0 q1 q2
theorem zq35{P:Prop}(h:P:=by rintro w' ⟨s0,s1,s2,s3⟩;go_simp;with_reducible rfl):P:=h
theorem zq37{P Q0:Prop}(q0:Q0)(h:Q0→P:=by intro q0;have:=q0;omega):P:=h q0
theorem zq42{P Q0 Q1:Prop}(q0:Q0)(q1:Q1)(h:Q0→Q1→P:=by intro q0 q1;(with_reducible repeat (first|apply Kd.R_alloc|apply Kd.R_drewN|apply Kd.R_drew));exact Kd.R_mono (Kd.R_far (p:=⟨g1,1,none⟩) (Kd.R_far (p:=⟨g1,0,none⟩) (Kd.R_types q0 q1 (by decide)) (fun _ hk=>hk.2) (.slice A6 t0.length c11)) (fun _ hk=>hk.2) (.slice Ao9 t1.length co9)) (fun _ hk=>trivial)):P:=h q0 q1
theorem zq48{P Q0:Prop}(q0:Q0)(h:Q0→P:=by intro q0;rw [hg];exact Nat.ne_of_lt (zE (g:=g0) (o:= .cells #[.slice A0 l2.length c0,.slice A1 l3.length c1] 25 (0,0)) (by (with_reducible repeat (first|refine zC ?_ _|refine zH ?_|refine zo ?_ _));exact q0))):P:=h q0
theorem zq49{P Q0:Prop}(q0:Q0)(h:Q0→P:=by intro q0;rw [hg];exact Nat.ne_of_gt (zE (g:=g0) (o:= .cells #[.slice A0 l2.length c0,.slice A1 l3.length c1] 25 (0,0)) (by (with_reducible repeat (first|refine zC ?_ _|refine zH ?_|refine zo ?_ _));exact q0))):P:=h q0
theorem zq50{P Q0:Prop}(q0:Q0)(h:Q0→P:=by intro q0;rw [hg];exact Nat.ne_of_lt (zE (g:=g0) (o:= .cells #[.slice A0 l2.length c0,.slice A1 l3.length c1] 32 (0,0)) (by (with_reducible repeat (first|refine zC ?_ _|refine zH ?_|refine zo ?_ _));exact q0))):P:=h q0
theorem zq51{P Q0:Prop}(q0:Q0)(h:Q0→P:=by intro q0;rw [hg];exact Nat.ne_of_gt (zE (g:=g0) (o:= .cells #[.slice A0 l2.length c0,.slice A1 l3.length c1] 32 (0,0)) (by (with_reducible repeat (first|refine zC ?_ _|refine zH ?_|refine zo ?_ _));exact q0))):P:=h q0
theorem zq52{P Q0 Q1:Prop}(q0:Q0)(q1:Q1)(h:Q0→Q1→P:=by intro q0 q1;(with_reducible repeat (first|refine zC ?_ _|refine zH ?_|refine zo ?_ _));refine zqb ?_ q0 _;(with_reducible repeat (first|refine zC ?_ _|refine zH ?_|refine zo ?_ _));exact q1):P:=h q0 q1
theorem zq53{P Q0:Prop}(q0:Q0)(h:Q0→P:=by intro q0;rw [hg];exact Nat.ne_of_lt (zE (g:=g0) (o:= .cells #[.int .i64 a0,.string a1] 140 (0,0)) (by (with_reducible repeat (first|refine zC ?_ _|refine zH ?_|refine zo ?_ _));exact q0))):P:=h q0
theorem zq54{P Q0:Prop}(q0:Q0)(h:Q0→P:=by intro q0;rw [hg];exact Nat.ne_of_gt (zE (g:=g0) (o:= .cells #[.int .i64 a0,.string a1] 140 (0,0)) (by (with_reducible repeat (first|refine zC ?_ _|refine zH ?_|refine zo ?_ _));exact q0))):P:=h q0
theorem zq55{P Q0 Q1:Prop}(q0:Q0)(q1:Q1)(h:Q0→Q1→P:=by intro q0 q1;rw [hg];exact (zL (by repeat (first|(with_reducible first|exact HB.1|apply zi|apply zG|apply zx|refine zD ?_ q0|refine zD ?_ q1)|exact HB.1)))):P:=h q0 q1
theorem zq57{P:Prop}(h:P:=by rintro w' ⟨s0,s1⟩;go_simp;with_reducible rfl):P:=h
theorem zq61{P Q0:Prop}(q0:Q0)(h:Q0→P:=by intro q0;have h_:(x1:Int)<((x0.length:Int):Int):=z8 (by with_reducible assumption);first|exact h_|(have e_:=(Kd.R_reads' q0).1;omega)|simpa using h_):P:=h q0
theorem zq71{P:Prop}(h:P:=by first|simpa using c3|(simp at c3 ⊢;omega)):P:=h
theorem zq72{P Q0:Prop}(q0:Q0)(h:Q0→P:=by intro q0;rw [hw];exact zD (HB.1) q0):P:=h q0
theorem zq86{P:Prop}(h:P:=by
 simp only [Act.put,List.setIfInBounds_toArray,List.set_cons_zero,List.set_cons_succ,zxa,i32_w]
 rfl):P:=h
theorem zq89{P:Prop}(h:P:=by
 repeat' first
   |(with_reducible exact ih0 _ _ _)
   |(with_reducible exact LeO.refl _)
   |(with_reducible exact LeO.none _)
   |(with_reducible refine LeO.ite ?_ ?_)
   |(with_reducible refine LeO.bind ?_ (fun _=> ?_))
   |exact ih0 _ _ _):P:=h
theorem zq90{P:Prop}(h:P:=by
 repeat' first
 |(with_reducible exact ih0 _ _ _)
 |(with_reducible exact LeO.refl _)
 |(with_reducible exact LeO.none _)
 |(with_reducible refine LeO.ite ?_ ?_)
 |(with_reducible refine LeO.bind ?_ (fun _=> ?_))
 |exact ih0 _ _ _):P:=h
theorem zq100{P:Prop}(h:P:=by
 refine zr (i:=9) (N:=some 26) (v:= ?_) (a':= ?_) #[true,true,true,true,true,true,true,true,true,true] rfl rfl (zk HT_.1 zq8) (fun _ _ _ h=>h) (Or.inl ⟨zq19,zq5⟩) zq1 ?_
 refine done_ (done_of HT_.1 zq8) ?_
 try go_wp2
 go_roundg k1
 case measure=>have:=HK1.1;omega
 case rel=>exact ⟨(wrap64 (x0+1)),zq10,H',⟨zq37 HK1.1⟩,⟨zq0⟩⟩):P:=h
theorem zq105{P:Prop}(h:P:=by
 rw [if_neg c5] at H
 exact absurd H zq29):P:=h
theorem zq110{P:Prop}(h:P:=by
 rw [if_neg c4] at H
 exact absurd H zq29):P:=h
theorem zq112{P:Prop}(h:P:=by
 rw [if_neg (show ¬(false=true) by decide)] at H
 exact absurd H zq29):P:=h
theorem zq151{P:Prop}(h:P:=by
 obtain rfl:=z5a H
 go_wp2
 go_ret
 exact ⟨zq9,zq0⟩):P:=h
theorem zq114{P:Prop}(h:P:=by
 rw [if_neg c4] at H
 have c4b0:=z7 c4
 clear c4
 exact zq151):P:=h
theorem zq115{P:Prop}(h:P:=by
 go_ret
 exact ⟨zq9,zq4 G0.1⟩):P:=h
theorem zq120{P:Prop}(h:P:=by
 go_wp2
 go_ret
 exact ⟨zq10,zq15⟩):P:=h
theorem zq126{P:Prop}(h:P:=by
 refine ⟨_,rfl,?_⟩
 have n0:=zz (zf zq0 hb)
 clear HB
 have HB:=n0
 clear n0
 (try clear hb)
 (try clear hb2)
 (try clear hk)
 (try clear hi)
 refine hK.out _ _ ⟨((HB.1.cell (z9 w _ h2)).trans h2),((HB.1.cell (z9 w _ h0)).trans h0),((HB.1.cell (z9 w _ h4)).trans h4),((HB.1.cell (z9 w _ h3)).trans h3)⟩ (fun hHeld=> ?_)
 clear hK K
 refine norm_ (a':= ?_) ?_ ?_
 rotate_left
 ·show Act.put _ (some 25) _=_
  exact zq86
 exact zq100):P:=h
theorem zq131{P:Prop}(h:P:=by
 rw [if_neg c3] at H
 exact absurd H zq29):P:=h
theorem zq139{P:Prop}(h:P:=by
 rw [if_neg c6] at H
 have c6b0:=z7 c6
 clear c6
 obtain rfl:=z5a H
 go_wp2
 go_ret
 exact ⟨_,zq9,by (with_reducible repeat (first|apply Kd.R_alloc|apply Kd.R_drewN|apply Kd.R_drew));exact O1.1,zq0⟩):P:=h
theorem zq140{P:Prop}(h:P:=by
 cases e1
 replace p1:=eq_true p1
 replace q1:=eq_true q1
 go_wp2
 repeat (go_quiet (fail);try go_wp2)
 go_roundg k1
 case measure=>have:=HK1.1;omega
 case rel=>exact ⟨(wrap64 (x0+1)),zq10,H',⟨zq37 HK1.1⟩,zq15⟩):P:=h
theorem zq141{P:Prop}(h:P:=by
 rw [if_neg c7] at H
 exact absurd H zq29):P:=h
theorem zq142{P:Prop}(h:P:=by
 go_roundg k1
 case measure=>have:=HK1.1;omega
 case rel=>exact ⟨(y1),(wrap64 (x1+1)),zq10,H',⟨zq37 HK1.1⟩,⟨by (with_reducible repeat (first|apply Kd.R_alloc|apply Kd.R_drewN|apply Kd.R_drew));exact O1.1⟩,⟨zq0⟩⟩):P:=h
theorem zq145{P:Prop}(h:P:=by
 rw [if_neg c6] at H
 exact absurd H zq29):P:=h
theorem zq149{P:Prop}(h:P:=by
 rw [if_neg c4] at H
 have c4b0:=z7 c4
 clear c4
 obtain rfl:=z5a H
 go_wp2
 repeat (go_quiet (fail);try go_wp2)
 go_ret
 exact ⟨zq10,zq15⟩):P:=h
theorem zq158{P:Prop}(h:P:=by
 rw [if_neg c8] at H
 exact absurd H zq29):P:=h
theorem zq161{P:Prop}(h:P:=by
 rcases Nat.eq_zero_or_pos l0.length with h0|h0
 ·exact List.eq_nil_of_length_eq_zero h0
 ·obtain ⟨_,h1,_⟩:=hr0.2.2 h0
  cases h1):P:=h
theorem zq162{P:Prop}(h:P:=by
 go_ret
 exact ⟨zq9,zq13 G0.1 G1.1⟩):P:=h
end Go.Proofs
namespace Go.Proofs.Ytonhdiemjgdcnaa.PFnExactGivePage
open Go.RowKit Go.Proofs.YtonhdiemjgdcnaaW.PrintWords Go.Proofs.YtonhdiemjgdcnaaW.PrintLast Go.Proofs.YtonhdiemjgdcnaaW.PrintMore
attribute [local go_sem] zV zU zia zha zP zN zS zT
theorem one_store {P:Program} {α:Type} {d:Kd α} {e base:Nat} {w:World} {ok:Nat→Prop} {v:Value} {xs:List α} (h:Kd.R d e w base ok v xs):∀(a:Addr) (m:Mode) (W:World),(store a v m).run P W=stored P W a v m:=by
 obtain ⟨A,c,rfl⟩:=Kd.R_slice h
 intro a m W
 exact run_store P W a _ m rfl
def errW:Option Int→Value
 |none=> .nilIface
 |some c=> .iface 0 (.int .i64 c)
theorem zMa:errW none= .nilIface:=rfl
theorem zLa (c:Int):errW (some c)= .iface 0 (.int .i64 c):=rfl
theorem info3:(Try.prog.info? 3).map (fun i=>(i.zero,i.size,i.bytes))=some (some (.int .i64 0),1,8):=zq8
theorem info5:(Try.prog.info? 5).map (fun i=>(i.zero,i.size,i.bytes))=some (some (.int .u8 0),1,1):=zq8
theorem info9:(Try.prog.info? 9).map (fun i=>(i.zero,i.size,i.bytes))=some (some (.string ⟨#[]⟩),1,16):=zq8
theorem info135:(Try.prog.info? 135).map (fun i=>(i.zero,i.size,i.bytes))=some (some (.agg #[(.int .i64 0),(.string ⟨#[]⟩)]),2,24):=zq8
structure S140 where
 f0:Int
 f1:ByteArray
def z140:S140:=⟨(0:Int),(⟨#[]⟩:ByteArray)⟩
def k140:Kd S140:=Kd.iso (Kd.pair (Kd.int .i64) Kd.string) (fun x:S140=>(x.f0,x.f1))
theorem k140_open {w:World} {x:S140} {cs:List Value} (h:k140.K w x cs):cs=[.int .i64 x.f0,.string x.f1]:=by
 obtain ⟨_,_,rfl,rfl,rfl⟩:=h
 exact rfl
def zea (xs:List S140) (i:Int):S140:=xs.getD i.toNat z140
theorem at_T140 {w:World} {A:Option Addr} {n:Nat} {xs:List S140} (h:Kd.C k140 w A n xs) (i:Int) (h0:0≤i) (h1:i<n):∃ad,A=some ad∧w.cell? (ad.add (i.toNat*2))=some (.int .i64 (zea xs i).f0)∧w.cell? ⟨(ad.add (i.toNat*2)).block,(ad.add (i.toNat*2)).off+1,none⟩=some (.string (zea xs i).f1):=by
 obtain ⟨ad,c,e,_,hK,hc0⟩:=Kd.C_get h z140 i h0 h1
 have hc:∀j u,c[j]?=some u→w.cell? (ad.add (i.toNat*2+j))=some u:=hc0
 obtain rfl:=k140_open hK
 exact ⟨ad,e,hc 0 _ rfl,by rw [←zPa _ _ 1 zq3];exact hc 1 _ rfl⟩
structure S135 where
 f0:Int
 f1:ByteArray
def z135:S135:=⟨(0:Int),(⟨#[]⟩:ByteArray)⟩
def k135:Kd S135:=Kd.iso (Kd.pair (Kd.int .i64) Kd.string) (fun x:S135=>(x.f0,x.f1))
theorem k135_open {w:World} {x:S135} {cs:List Value} (h:k135.K w x cs):cs=[.int .i64 x.f0,.string x.f1]:=by
 obtain ⟨_,_,rfl,rfl,rfl⟩:=h
 exact rfl
theorem zTa {w:World} {base:Nat} {ok:Nat→Prop} {x:S135} {cs:List Value} (h:k135.M w base ok x cs):cs=[.int .i64 x.f0,.string x.f1]:=by
 obtain ⟨_,_,rfl,rfl,rfl⟩:=h
 exact rfl
theorem k135_mkM (w:World) (base:Nat) (ok:Nat→Prop) (x:S135):k135.M w base ok x [.int .i64 x.f0,.string x.f1]:=⟨[.int .i64 x.f0],[.string x.f1],rfl,rfl,rfl⟩
def zm (xs:List S135) (i:Int):S135:=xs.getD i.toNat z135
theorem zka {w:World} {A:Option Addr} {n:Nat} {xs:List S135} (h:Kd.C k135 w A n xs) (i:Int) (h0:0≤i) (h1:i<n):∃ad,A=some ad∧w.cell? (ad.add (i.toNat*2))=some (.int .i64 (zm xs i).f0)∧w.cell? ⟨(ad.add (i.toNat*2)).block,(ad.add (i.toNat*2)).off+1,none⟩=some (.string (zm xs i).f1):=by
 obtain ⟨ad,c,e,_,hK,hc0⟩:=Kd.C_get h z135 i h0 h1
 have hc:∀j u,c[j]?=some u→w.cell? (ad.add (i.toNat*2+j))=some u:=hc0
 obtain rfl:=k135_open hK
 exact ⟨ad,e,hc 0 _ rfl,by rw [←zPa _ _ 1 zq3];exact hc 1 _ rfl⟩
def laws_szStringS.l0:Nat→List ByteArray→Int→Int→Option (Int)
 |0,_,_,_=>none
 |k+1,x0,x1,x5=>if x5<(x0.length:Int) then (if 0≤x5 then (if (wrap64 (x1-((zkb ByteArray.empty x0 x5).size:Int)))<0 then (some (-1)) else (laws_szStringS.l0 k x0 (wrap64 (x1-((zkb ByteArray.empty x0 x5).size:Int))) (wrap64 (x5+1)))) else (none)) else (some x1)
def laws_szStringS.f (k:Nat) (l0:List ByteArray) (a1:Int):Option (Int):=if (wrap64 (a1-(l0.length:Int)))<0 then (some (-1)) else (laws_szStringS.l0 k l0 (wrap64 (a1-(l0.length:Int))) 0)
theorem laws_szStringS.mono_l:∀k,(∀y0 y1 y2,LeO (laws_szStringS.l0 k y0 y1 y2) (laws_szStringS.l0 (k+1) y0 y1 y2))
 |0=>fun _ _ _ r h=>by simp [laws_szStringS.l0] at h
 |k+1=>by
  have ih0:=laws_szStringS.mono_l k
  ·intro y0 y1 y2
   unfold laws_szStringS.l0
   exact zq90
theorem laws_szStringS.mono:∀a0 a1 k,LeO (laws_szStringS.f k a0 a1) (laws_szStringS.f (k+1) a0 a1):=by
 intro a0 a1 k
 have ih0:=laws_szStringS.mono_l k
 unfold laws_szStringS.f
 exact zq89
theorem laws_szStringS.calls (k:Nat) (A0:Option Addr) (c0:Nat) (l0:List ByteArray) (a1:Int) (r:Int) (w:World) (hr0:Kd.C Kd.string w A0 l0.length l0) (hc0:l0.length≤c0) (h:laws_szStringS.f k l0 a1=some r):
  Calls Try.prog 54 #[.slice A0 l0.length c0,.int .i64 a1] w fun e w'=>e= .returned (.int .i64 r)∧Drawn0 w w':=by
 have HR0:=zz hr0
 clear hr0 hc0
 have H:(if (wrap64 (a1-(l0.length:Int)))<0 then (some (-1)) else (laws_szStringS.l0 k l0 (wrap64 (a1-(l0.length:Int))) 0))=some r:=h
 clear h
 by_cases c3:(wrap64 (a1-(l0.length:Int)))<0
 ·rw [if_pos c3] at H
  have c3b0:=z6 c3
  clear c3
  obtain rfl:=z5a H
  go_enter Try.func54,Try.ntmps54
  exact zq120
 ·rw [if_neg c3] at H
  have c3b0:=z7 c3
  clear c3
  have H':=zz H
  clear H
  go_enter Try.func54,Try.ntmps54
  go_wp2
  go_loopg [1,5] k (fun kq v1 v5 w'=>∃(x0:Int) (x1:Int),v1= .int .i64 x0∧v5= .int .i64 x1∧Z0 (laws_szStringS.l0 kq l0 x0 x1=some r)∧Z0 (kq≤k)∧Drawn0 w w')
  case atStart=>exact ⟨(wrap64 (a1-(l0.length:Int))),(0),zq10,zq10,H',⟨z2a _⟩,zq15⟩
  case round=>
   clear H'
   try clear c3
   try clear c3b0
   obtain ⟨x0,x1,rfl,rfl,HA,HK1,⟨m1,rfl⟩⟩:=hrel
   cases gk with
   |zero=>exact absurd HA.1 (by simp [laws_szStringS.l0])
   |succ k1=>
    have H:=HA.1
    clear HA
    simp only [laws_szStringS.l0] at H
    by_cases c4:x1<(l0.length:Int)
    ·rw [if_pos c4] at H
     have c4b0:=z6 c4
     clear c4
     by_cases c5:0≤x1
     ·rw [if_pos c5] at H
      have c5b0:=z6 c5
      clear c5
      by_cases c6:(wrap64 (x0-((zkb ByteArray.empty l0 x1).size:Int)))<0
      ·rw [if_pos c6] at H
       have c6b0:=z6 c6
       clear c6
       obtain rfl:=z5a H
       have p0:0≤(x1:Int):=z8 zq11
       have q0:x1<(l0.length:Int):=z8 zq11
       obtain ⟨b0,e0,k0⟩:=Kd.at_string HR0.1 x1 p0 q0
       cases e0
       replace p0:=eq_true p0
       replace q0:=eq_true q0
       exact zq120
      ·rw [if_neg c6] at H
       have c6b0:=z7 c6
       clear c6
       have H':=zz H
       clear H
       have p0:0≤(x1:Int):=z8 zq11
       have q0:x1<(l0.length:Int):=z8 zq11
       obtain ⟨b0,e0,k0⟩:=Kd.at_string HR0.1 x1 p0 q0
       cases e0
       replace p0:=eq_true p0
       replace q0:=eq_true q0
       go_wp2
       go_roundg k1
       case measure=>have:=HK1.1;omega
       case rel=>exact ⟨(wrap64 (x0-((zkb ByteArray.empty l0 x1).size:Int))),(wrap64 (x1+1)),zq10,zq10,H',⟨zq37 HK1.1⟩,zq15⟩
     ·exact zq105
    ·rw [if_neg c4] at H
     have c4b0:=z7 c4
     clear c4
     obtain rfl:=z5a H
     exact zq120
def laws_szPut.f (a0_0:Int) (a0_1:ByteArray) (a1:Int):Option (Int):=if (wrap64 (a1-(a0_1.size:Int)))<0 then (some (-1)) else (some (wrap64 (a1-(a0_1.size:Int))))
theorem laws_szPut.calls (a0:Int) (a2:ByteArray) (a1:Int) (r:Int) (w:World) (h:laws_szPut.f a0 a2 a1=some r):
  Calls Try.prog 115 #[.agg #[.int .i64 a0,.string a2],.int .i64 a1] w fun e w'=>e= .returned (.int .i64 r)∧Below w.heap.size w w':=by
 have hu140:=Try.underlying140
 have HB:=zz (z0a w.heap.size w)
 have H:(if (wrap64 (a1-(a2.size:Int)))<0 then (some (-1)) else (some (wrap64 (a1-(a2.size:Int)))))=some r:=h
 clear h
 by_cases c3:(wrap64 (a1-(a2.size:Int)))<0
 ·rw [if_pos c3] at H
  have c3b0:=z6 c3
  clear c3
  obtain rfl:=z5a H
  go_enter Try.func115,Try.ntmps115
  go_wp2_with (first|((with_reducible refine zg (N:=2) rfl ?_);refine zA rfl (N:=2) rfl (cs:= #[.int .i64 a0,.string a2]) (t:=140) zq26 ?_;intro g0 hg w4 hbox hb;have B0:=zz hbox;have G0:=zz (zq12:w.heap.size≤g0);replace HB:=zz (zf zq0 hb);clear hb hbox hg;obtain ⟨_,_,_,_⟩:=zba B0.1))
  exact zq115
 ·rw [if_neg c3] at H
  have c3b0:=z7 c3
  clear c3
  obtain rfl:=z5a H
  go_enter Try.func115,Try.ntmps115
  go_wp2_with (first|((with_reducible refine zg (N:=2) rfl ?_);refine zA rfl (N:=2) rfl (cs:= #[.int .i64 a0,.string a2]) (t:=140) zq26 ?_;intro g0 hg w6 hbox hb;have B0:=zz hbox;have G0:=zz (zq12:w.heap.size≤g0);replace HB:=zz (zf zq0 hb);clear hb hbox hg;obtain ⟨_,_,_,_⟩:=zba B0.1))
  exact zq115
def laws_szPutS.l0:Nat→List (S140)→Int→Int→Option (Int)
 |0,_,_,_=>none
 |k+1,x0,x1,x5=>if x5<(x0.length:Int) then (if 0≤x5 then ((laws_szPut.f ((zea x0 x5).f0) ((zea x0 x5).f1) x1).bind fun t104=>(if t104<0 then (some (-1)) else (laws_szPutS.l0 k x0 t104 (wrap64 (x5+1))))) else (none)) else (some x1)
def laws_szPutS.f (k:Nat) (l0:List (S140)) (a1:Int):Option (Int):=if (wrap64 (a1-(l0.length:Int)))<0 then (some (-1)) else (laws_szPutS.l0 k l0 (wrap64 (a1-(l0.length:Int))) 0)
theorem laws_szPutS.mono_l:∀k,(∀y0 y1 y2,LeO (laws_szPutS.l0 k y0 y1 y2) (laws_szPutS.l0 (k+1) y0 y1 y2))
 |0=>fun _ _ _ r h=>by simp [laws_szPutS.l0] at h
 |k+1=>by
  have ih0:=laws_szPutS.mono_l k
  ·intro y0 y1 y2
   unfold laws_szPutS.l0
   exact zq90
theorem laws_szPutS.mono:∀a0 a1 k,LeO (laws_szPutS.f k a0 a1) (laws_szPutS.f (k+1) a0 a1):=by
 intro a0 a1 k
 have ih0:=laws_szPutS.mono_l k
 unfold laws_szPutS.f
 exact zq89
theorem laws_szPutS.calls (k:Nat) (A0:Option Addr) (c0:Nat) (l0:List (S140)) (a1:Int) (r:Int) (w:World) (hr0:Kd.C k140 w A0 l0.length l0) (hc0:l0.length≤c0) (h:laws_szPutS.f k l0 a1=some r):
  Calls Try.prog 62 #[.slice A0 l0.length c0,.int .i64 a1] w fun e w'=>e= .returned (.int .i64 r)∧Below w.heap.size w w':=by
 have hu140:=Try.underlying140
 have HR0:=zz hr0
 clear hr0 hc0
 have HB:=zz (z0a w.heap.size w)
 have H:(if (wrap64 (a1-(l0.length:Int)))<0 then (some (-1)) else (laws_szPutS.l0 k l0 (wrap64 (a1-(l0.length:Int))) 0))=some r:=h
 clear h
 by_cases c3:(wrap64 (a1-(l0.length:Int)))<0
 ·rw [if_pos c3] at H
  have c3b0:=z6 c3
  clear c3
  obtain rfl:=z5a H
  go_enter Try.func62,Try.ntmps62
  go_wp2
  go_ret
  exact ⟨zq9,zq0⟩
 ·rw [if_neg c3] at H
  have c3b0:=z7 c3
  clear c3
  have H':=zz H
  clear H
  go_enter Try.func62,Try.ntmps62
  go_wp2
  go_loopg [1,5] k (fun kq v1 v5 w'=>∃(x0:Int) (x1:Int),v1= .int .i64 x0∧v5= .int .i64 x1∧Z0 (laws_szPutS.l0 kq l0 x0 x1=some r)∧Z0 (kq≤k)∧Z0 (Below w.heap.size w w'))
  case atStart=>exact ⟨(wrap64 (a1-(l0.length:Int))),(0),zq10,zq10,H',⟨z2a _⟩,⟨zq0⟩⟩
  case round=>
   clear H'
   try clear c3
   try clear c3b0
   obtain ⟨x0,x1,rfl,rfl,HA,HK1,HB⟩:=hrel
   cases gk with
   |zero=>exact absurd HA.1 (by simp [laws_szPutS.l0])
   |succ k1=>
    have H:=HA.1
    clear HA
    simp only [laws_szPutS.l0] at H
    by_cases c4:x1<(l0.length:Int)
    ·rw [if_pos c4] at H
     have c4b0:=z6 c4
     clear c4
     by_cases c5:0≤x1
     ·rw [if_pos c5] at H
      have c5b0:=z6 c5
      clear c5
      replace H:=z1a H
      obtain ⟨t0,A1,H⟩:=H
      replace H:(if t0<0 then (some (-1)) else (laws_szPutS.l0 k1 l0 t0 (wrap64 (x1+1))))=some r:=H
      have A6:=zz A1
      clear A1
      by_cases c7:t0<0
      ·rw [if_pos c7] at H
       have c7b0:=z6 c7
       clear c7
       obtain rfl:=z5a H
       have p0:0≤(x1:Int):=z8 zq11
       have q0:x1<(l0.length:Int):=z8 zq11
       obtain ⟨b0,e0,k0,k2⟩:=at_T140 HR0.1 x1 p0 q0
       cases e0
       replace k0:=(HB.1.cell (z9 w _ k0)).trans k0
       replace k2:=(HB.1.cell (z9 w _ k2)).trans k2
       replace p0:=eq_true p0
       replace q0:=eq_true q0
       go_wp2_with (first|((with_reducible refine zn (f:=115) rfl ?_);refine zQ (some 23) rfl rfl Try.func115 zq8 rfl #[.agg #[.int .i64 ((zea l0 x1).f0),.string ((zea l0 x1).f1)],.int .i64 x0] rfl zq6 ?_;(with_reducible refine (laws_szPut.calls ((zea l0 x1).f0) ((zea l0 x1).f1) x0 t0 _ A6.1).mono ?_);rintro e w8 ⟨rfl,hb⟩;refine ⟨_,rfl,?_⟩;replace HB:=zz (zf zq0 hb);(try clear hb);(try clear hb2);(try clear hk);(try clear hi)))
       go_ret
       exact ⟨zq9,zq0⟩
      ·rw [if_neg c7] at H
       have c7b0:=z7 c7
       clear c7
       have H':=zz H
       clear H
       have p0:0≤(x1:Int):=z8 zq11
       have q0:x1<(l0.length:Int):=z8 zq11
       obtain ⟨b0,e0,k0,k2⟩:=at_T140 HR0.1 x1 p0 q0
       cases e0
       replace k0:=(HB.1.cell (z9 w _ k0)).trans k0
       replace k2:=(HB.1.cell (z9 w _ k2)).trans k2
       replace p0:=eq_true p0
       replace q0:=eq_true q0
       go_wp2_with (first|((with_reducible refine zn (f:=115) rfl ?_);refine zQ (some 23) rfl rfl Try.func115 zq8 rfl #[.agg #[.int .i64 ((zea l0 x1).f0),.string ((zea l0 x1).f1)],.int .i64 x0] rfl zq6 ?_;(with_reducible refine (laws_szPut.calls ((zea l0 x1).f0) ((zea l0 x1).f1) x0 t0 _ A6.1).mono ?_);rintro e w9 ⟨rfl,hb⟩;refine ⟨_,rfl,?_⟩;replace HB:=zz (zf zq0 hb);(try clear hb);(try clear hb2);(try clear hk);(try clear hi)))
       go_roundg k1
       case measure=>have:=HK1.1;omega
       case rel=>exact ⟨(t0),(wrap64 (x1+1)),zq10,zq10,H',⟨zq37 HK1.1⟩,⟨zq0⟩⟩
     ·exact zq105
    ·exact zq114
def laws_szDisk.f (k:Nat) (l0_0:List ByteArray) (l0_1:List (S140)) (a1:Int):Option (Int):=(laws_szStringS.f k l0_0 a1).bind fun t106=>(if t106<0 then (some (-1)) else ((laws_szPutS.f k l0_1 t106).bind fun t107=>(if t107<0 then (some (-1)) else (some t107))))
theorem laws_szDisk.calls (k:Nat) (A0:Option Addr) (c0:Nat) (l2:List ByteArray) (A1:Option Addr) (c1:Nat) (l3:List (S140)) (a1:Int) (r:Int) (w:World) (r0:Kd.C Kd.string w A0 l2.length l2) (h0:l2.length≤c0) (r1:Kd.C k140 w A1 l3.length l3) (h2:l3.length≤c1) (h:laws_szDisk.f k l2 l3 a1=some r):
  Calls Try.prog 22 #[.agg #[.slice A0 l2.length c0,.slice A1 l3.length c1],.int .i64 a1] w fun e w'=>e= .returned (.int .i64 r)∧Below w.heap.size w w':=by
 have hu25:=Try.underlying25
 have R0:=zz r0
 have C0:=zz h0
 clear r0 h0
 have R1:=zz r1
 have C1:=zz h2
 clear r1 h2
 have HB:=zz (z0a w.heap.size w)
 have H:((laws_szStringS.f k l2 a1).bind fun t0=>(if t0<0 then (some (-1)) else ((laws_szPutS.f k l3 t0).bind fun t1=>(if t1<0 then (some (-1)) else (some t1)))))=some r:=h
 clear h
 replace H:=z1a H
 obtain ⟨t0,A2,H⟩:=H
 replace H:(if t0<0 then (some (-1)) else ((laws_szPutS.f k l3 t0).bind fun t1=>(if t1<0 then (some (-1)) else (some t1))))=some r:=H
 have A3:=zz A2
 clear A2
 by_cases c4:t0<0
 ·rw [if_pos c4] at H
  have c4b0:=z6 c4
  clear c4
  obtain rfl:=z5a H
  go_enter Try.func22,Try.ntmps22
  go_wp2_with (first|((with_reducible refine zg (N:=2) rfl ?_);refine zA rfl (N:=2) rfl (cs:= #[.slice A0 l2.length c0,.slice A1 l3.length c1]) (t:=25) zq26 ?_;intro g0 hg w5 hbox hb;have B0:=zz hbox;have G0:=zz (zq12:w.heap.size≤g0);replace HB:=zz (zf zq0 hb);clear hb hbox hg;obtain ⟨_,_,_,_⟩:=zba B0.1)|((with_reducible refine zn (f:=54) rfl ?_);refine zQ (some 8) rfl rfl Try.func54 zq8 rfl #[.slice A0 l2.length c0,.int .i64 a1] rfl zq6 ?_;(with_reducible refine (laws_szStringS.calls k _ _ l2 a1 t0 _ ?side1 ?side2 A3.1).mono ?_);(case side1=>repeat (first|exact (Kd.C_below R0.1 HB.1)|(with_reducible refine Kd.C_alloc ?_ _)|(with_reducible refine Kd.C_drewN ?_ _)|(with_reducible refine Kd.C_drew ?_)));(case side2=>exact C0.1);rintro e w' ⟨rfl,⟨nd,rfl⟩⟩;refine ⟨_,rfl,?_⟩))
  exact zq115
 ·rw [if_neg c4] at H
  have c4b0:=z7 c4
  clear c4
  replace H:=z1a H
  obtain ⟨t1,A4,H⟩:=H
  replace H:(if t1<0 then (some (-1)) else (some t1))=some r:=H
  have A7:=zz A4
  clear A4
  by_cases c8:t1<0
  ·rw [if_pos c8] at H
   have c8b0:=z6 c8
   clear c8
   obtain rfl:=z5a H
   go_enter Try.func22,Try.ntmps22
   go_wp2_with (first|((with_reducible refine zg (N:=2) rfl ?_);refine zA rfl (N:=2) rfl (cs:= #[.slice A0 l2.length c0,.slice A1 l3.length c1]) (t:=25) zq26 ?_;intro g0 hg w9 hbox hb;have B0:=zz hbox;have G0:=zz (zq12:w.heap.size≤g0);replace HB:=zz (zf zq0 hb);clear hb hbox hg;obtain ⟨_,_,_,_⟩:=zba B0.1)|((with_reducible refine zn (f:=54) rfl ?_);refine zQ (some 8) rfl rfl Try.func54 zq8 rfl #[.slice A0 l2.length c0,.int .i64 a1] rfl zq6 ?_;(with_reducible refine (laws_szStringS.calls k _ _ l2 a1 t0 _ ?side1 ?side2 A3.1).mono ?_);(case side1=>repeat (first|exact (Kd.C_below R0.1 HB.1)|(with_reducible refine Kd.C_alloc ?_ _)|(with_reducible refine Kd.C_drewN ?_ _)|(with_reducible refine Kd.C_drew ?_)));(case side2=>exact C0.1);rintro e w' ⟨rfl,⟨nd,rfl⟩⟩;refine ⟨_,rfl,?_⟩)|((with_reducible refine zn (f:=62) rfl ?_);refine zQ (some 14) rfl rfl Try.func62 zq8 rfl #[.slice A1 l3.length c1,.int .i64 t0] rfl zq6 ?_;(with_reducible refine (laws_szPutS.calls k _ _ l3 t0 t1 _ ?side1 ?side2 A7.1).mono ?_);(case side1=>repeat (first|exact (Kd.C_below R1.1 (zq4 G0.1))|(with_reducible refine Kd.C_alloc ?_ _)|(with_reducible refine Kd.C_drewN ?_ _)|(with_reducible refine Kd.C_drew ?_)));(case side2=>exact C1.1);rintro e w11 ⟨rfl,hb⟩;refine ⟨_,rfl,?_⟩;replace B0:=zz (zj (g:=g0) (o:= .cells #[.slice A0 l2.length c0,.slice A1 l3.length c1] 25 (0,0)) (zq7 B0.1) hb);replace HB:=zz (zf (zq4 G0.1) hb);(try clear hb);(try clear hb2);(try clear hk);(try clear hi)))
   exact zq115
  ·rw [if_neg c8] at H
   have c8b0:=z7 c8
   clear c8
   obtain rfl:=z5a H
   go_enter Try.func22,Try.ntmps22
   go_wp2_with (first|((with_reducible refine zg (N:=2) rfl ?_);refine zA rfl (N:=2) rfl (cs:= #[.slice A0 l2.length c0,.slice A1 l3.length c1]) (t:=25) zq26 ?_;intro g0 hg w12 hbox hb;have B0:=zz hbox;have G0:=zz (zq12:w.heap.size≤g0);replace HB:=zz (zf zq0 hb);clear hb hbox hg;obtain ⟨_,_,_,_⟩:=zba B0.1)|((with_reducible refine zn (f:=54) rfl ?_);refine zQ (some 8) rfl rfl Try.func54 zq8 rfl #[.slice A0 l2.length c0,.int .i64 a1] rfl zq6 ?_;(with_reducible refine (laws_szStringS.calls k _ _ l2 a1 t0 _ ?side1 ?side2 A3.1).mono ?_);(case side1=>repeat (first|exact (Kd.C_below R0.1 HB.1)|(with_reducible refine Kd.C_alloc ?_ _)|(with_reducible refine Kd.C_drewN ?_ _)|(with_reducible refine Kd.C_drew ?_)));(case side2=>exact C0.1);rintro e w' ⟨rfl,⟨nd,rfl⟩⟩;refine ⟨_,rfl,?_⟩)|((with_reducible refine zn (f:=62) rfl ?_);refine zQ (some 14) rfl rfl Try.func62 zq8 rfl #[.slice A1 l3.length c1,.int .i64 t0] rfl zq6 ?_;(with_reducible refine (laws_szPutS.calls k _ _ l3 t0 t1 _ ?side1 ?side2 A7.1).mono ?_);(case side1=>repeat (first|exact (Kd.C_below R1.1 (zq4 G0.1))|(with_reducible refine Kd.C_alloc ?_ _)|(with_reducible refine Kd.C_drewN ?_ _)|(with_reducible refine Kd.C_drew ?_)));(case side2=>exact C1.1);rintro e w14 ⟨rfl,hb⟩;refine ⟨_,rfl,?_⟩;replace B0:=zz (zj (g:=g0) (o:= .cells #[.slice A0 l2.length c0,.slice A1 l3.length c1] 25 (0,0)) (zq7 B0.1) hb);replace HB:=zz (zf (zq4 G0.1) hb);(try clear hb);(try clear hb2);(try clear hk);(try clear hi)))
   exact zq115
def laws_toStringS.l0:Nat→List ByteArray→List ByteArray→Int→Option (List ByteArray)
 |0,_,_,_=>none
 |k+1,x0,x3,x4=>if x4<(x0.length:Int) then (if 0≤x4 then (if x4<(x3.length:Int) then (laws_toStringS.l0 k x0 (x3.set (x4:Int).toNat (zkb ByteArray.empty x0 x4)) (wrap64 (x4+1))) else (none)) else (none)) else (some x3)
def laws_toStringS.f (k:Nat) (l0:List ByteArray):Option (List ByteArray):=if 0≤(l0.length:Int) then (if ((l0.length:Int):Int).toNat≤17592186044416 then (laws_toStringS.l0 k l0 (List.replicate ((l0.length:Int):Int).toNat (⟨#[]⟩:ByteArray)) 0) else (none)) else (none)
theorem laws_toStringS.mono_l:∀k,(∀y0 y1 y2,LeO (laws_toStringS.l0 k y0 y1 y2) (laws_toStringS.l0 (k+1) y0 y1 y2))
 |0=>fun _ _ _ r h=>by simp [laws_toStringS.l0] at h
 |k+1=>by
  have ih0:=laws_toStringS.mono_l k
  ·intro y0 y1 y2
   unfold laws_toStringS.l0
   exact zq90
theorem laws_toStringS.mono:∀a0 k,LeO (laws_toStringS.f k a0) (laws_toStringS.f (k+1) a0):=by
 intro a0 k
 have ih0:=laws_toStringS.mono_l k
 unfold laws_toStringS.f
 exact zq89
theorem laws_toStringS.calls (k:Nat) (A0:Option Addr) (c0:Nat) (l0:List ByteArray) (r:List ByteArray) (w:World) (hr0:Kd.C Kd.string w A0 l0.length l0) (hc0:l0.length≤c0) (h:laws_toStringS.f k l0=some r):
  Calls Try.prog 57 #[.slice A0 l0.length c0] w fun e w'=>∃v0:Value,e= .returned (v0)∧Kd.R Kd.string 9 w' w.heap.size (fun _=>True) v0 r∧Below w.heap.size w w':=by
 have HR0:=zz hr0
 clear hr0 hc0
 have HB:=zz (z0a w.heap.size w)
 have H:(if 0≤(l0.length:Int) then (if ((l0.length:Int):Int).toNat≤17592186044416 then (laws_toStringS.l0 k l0 (List.replicate ((l0.length:Int):Int).toNat (⟨#[]⟩:ByteArray)) 0) else (none)) else (none))=some r:=h
 clear h
 by_cases c2:0≤(l0.length:Int)
 ·rw [if_pos c2] at H
  have c2b0:=eq_true c2
  have c2b1:=z6 c2
  clear c2
  by_cases c3:((l0.length:Int):Int).toNat≤17592186044416
  ·rw [if_pos c3] at H
   have c3b0:=eq_true c3
   have c3b1:=z6 c3
   clear c3
   obtain ⟨y0,i0⟩:∃y_:List ByteArray,y_=(List.replicate ((l0.length:Int):Int).toNat (⟨#[]⟩:ByteArray)):=⟨_,rfl⟩
   replace H:(laws_toStringS.l0 k l0 y0 0)=some r:=zq16
   have Y0:=zz i0
   clear i0
   have H':=zz H
   clear H
   go_enter Try.func57,Try.ntmps57
   go_wp2_with (first|((with_reducible refine zg (N:=7) rfl ?_);refine Kd.R_make Kd.string _ 9 rfl (N:=7) rfl 22 _ _ rfl (l0.length:Int) rfl rfl Try.underlying22 (.string ⟨#[]⟩) 16 info9 rfl zq32 zq3 (⟨#[]⟩:ByteArray) (ok:=fun _=>True) (okp:=fun _=>True) rfl (fun _ hk=>hk) trivial (z8 zq11) (z4a (z6a _ (z8 zq11:(l0.length:Int).toNat≤17592186044416)) zq3) (z0a _ _) (z2a _) ?_;intro v1 w4 ho5 hb hg_ hnew_;clear hg_ hnew_;(first|rw [←Y0.1] at ho5|(simp only [Int.reduceToNat] at ho5;rw [←Y0.1] at ho5));have O0:=zz (Kd.R_lower ho5 (zL zq0));replace HB:=zz (zf zq0 hb);clear hb ho5))
   go_loopg [4] k (fun kq v4 w'=>∃(x0:List ByteArray) (x1:Int),v4= .int .i64 x1∧Z0 (laws_toStringS.l0 kq l0 x0 x1=some r)∧Z0 (kq≤k)∧Z0 (Kd.R Kd.string 9 w' w.heap.size (fun _=>True) v1 x0)∧Z0 (Below w.heap.size w w'))
   case atStart=>exact ⟨(y0),(0),zq10,H',⟨z2a _⟩,⟨by (with_reducible repeat (first|apply Kd.R_alloc|apply Kd.R_drewN|apply Kd.R_drew));exact O0.1⟩,⟨zq0⟩⟩
   case round=>
    clear H'
    try clear c2
    try clear c2b0
    try clear c2b1
    try clear c3
    try clear c3b0
    try clear c3b1
    obtain ⟨x0,x1,rfl,HA,HK1,O1,HB⟩:=hrel
    cases gk with
    |zero=>exact absurd HA.1 (by simp [laws_toStringS.l0])
    |succ k1=>
     have H:=HA.1
     clear HA
     simp only [laws_toStringS.l0] at H
     by_cases c6:x1<(l0.length:Int)
     ·rw [if_pos c6] at H
      have c6b0:=z6 c6
      clear c6
      by_cases c7:0≤x1
      ·rw [if_pos c7] at H
       have c7b0:=z6 c7
       clear c7
       by_cases c8:x1<(x0.length:Int)
       ·rw [if_pos c8] at H
        have c8b0:=z6 c8
        clear c8
        obtain ⟨y1,i1⟩:∃y_:List ByteArray,y_=(x0.set (x1:Int).toNat (zkb ByteArray.empty l0 x1)):=⟨_,rfl⟩
        replace H:(laws_toStringS.l0 k1 l0 y1 (wrap64 (x1+1)))=some r:=zq27
        have Y1:=zz i1
        clear i1
        have H':=zz H
        clear H
        have p0:0≤(x1:Int):=z8 zq11
        have q0:x1<(l0.length:Int):=z8 zq11
        obtain ⟨ad164,e0,k0⟩:=Kd.at_string HR0.1 x1 p0 q0
        cases e0
        replace k0:=(HB.1.cell (z9 w _ k0)).trans k0
        replace p0:=eq_true p0
        replace q0:=eq_true q0
        have p9:0≤(x1:Int):=z8 zq11
        have q9:(x1:Int)<((x0.length:Int):Int):=z8 zq11
        obtain ⟨go9,co9,eo9,gb9,gl9,cl9,HG9⟩:=Kd.R_form O1.1 zq3
        (first|cases eo9|(injection eo9 with ea_ en_ ec_;(first|subst ea_|(injection ea_ with ea_;subst ea_));subst ec_;clear en_))
        have GB9:=zz gb9
        clear gb9 gl9 HG9
        obtain ⟨hx9_0,hf9_0⟩:=Kd.R_celln (⟨#[]⟩:ByteArray) O1.1 (x1:Int) p9 q9
        replace p9:=eq_true p9
        replace q9:=eq_true q9
        have HP10:=Kd.R_putg O1.1 (x1:Int) (zkb ByteArray.empty l0 x1)
        go_wp2_with (first|((with_reducible refine zI (t:=9) (p:=20) rfl ?_);refine zwa (t:=9) (p:=20) (v:= ?vo_w11) (w1:=(wr.setCell ⟨go9,(x1:Int).toNat,none⟩ (.string (zkb ByteArray.empty l0 x1)))) ?hg ?ho ?hn ?hr ?_;(case ho=>rfl);(case hg=>rfl);(case hn=>rfl);(case hr=>first|(go_simp;done)|(go_simp;rfl));intro w5 hw;have hg:wr.grownBy w5 (some go9):=(by rw [hw];exact HP10.2);have hp_:Kd.R Kd.string 9 w5 w.heap.size (fun _=>True) (.slice (some ⟨go9,0,none⟩) x0.length co9) y1:=(by rw [hw,Y1.1];exact HP10.1);clear HP10;replace O1:=zz hp_;replace HB:=zz (zq72 GB9.1:Below w.heap.size w w5);clear hg hw hp_))
        exact zq142
       ·exact zq158
      ·exact zq141
     ·exact zq139
  ·exact zq131
 ·rw [if_neg c2] at H
  exact absurd H zq29
def laws_toPut.f (a0_0:Int) (a0_1:ByteArray):Option (Int×ByteArray):=some (a0_0,a0_1)
theorem laws_toPut.calls (a0:Int) (a1:ByteArray) (r1:Int) (r2:ByteArray) (w:World) (h:laws_toPut.f a0 a1=some (r1,r2)):
  Calls Try.prog 118 #[.agg #[.int .i64 a0,.string a1]] w fun e w'=>e= .returned (.agg #[.int .i64 r1,.string r2])∧Below w.heap.size w w':=by
 have hu140:=Try.underlying140
 have hu135:=Try.underlying135
 have HB:=zz (z0a w.heap.size w)
 have H:(some (a0,a1))=some (r1,r2):=h
 clear h
 simp only [Option.some.injEq,Prod.mk.injEq] at H
 obtain ⟨rfl,rfl⟩:=H
 go_enter Try.func118,Try.ntmps118
 go_wp2_with (first|((with_reducible refine zg (N:=1) rfl ?_);refine zA rfl (N:=1) rfl (cs:= #[.int .i64 a0,.string a1]) (t:=140) zq26 ?_;intro g0 hg w2 hbox hb;have B0:=zz hbox;have G0:=zz (zq12:w.heap.size≤g0);replace HB:=zz (zf zq0 hb);clear hb hbox hg)|((with_reducible refine zg (N:=2) rfl ?_);refine zA rfl (N:=2) rfl (cs:= #[.int .i64 0,.string (⟨#[]⟩:ByteArray)]) (t:=135) zq26 ?_;intro g1 hg w3 hbox hb;have B4:=zz hbox;have G1:=zz (zq24 G0.1:w.heap.size≤g1);have N0:=zz (zq53 B0.1:g0≠g1);have N1:=zz (zq54 B0.1:g1≠g0);replace B0:=zz (zj (g:=g0) (o:= .cells #[.int .i64 a0,.string a1] 140 (0,0)) (zq7 B0.1) hb);replace HB:=zz (zf (zq4 G0.1) hb);clear hb hbox hg)|((with_reducible refine zg (N:=3) rfl ?_);refine zA rfl (N:=3) rfl (cs:= #[.int .i64 0,.string (⟨#[]⟩:ByteArray)]) (t:=135) zq26 ?_;intro g2 hg w4 hbox hb;have B5:=zz hbox;have G2:=zz (zq55 G0.1 G1.1:w.heap.size≤g2);have N2:=zz (zq53 B0.1:g0≠g2);have N3:=zz (zq54 B0.1:g2≠g0);have N4:=zz (by rw [hg];exact Nat.ne_of_lt (zE (g:=g1) (o:= .cells #[.int .i64 0,.string (⟨#[]⟩:ByteArray)] 135 (0,0)) (zq7 B4.1)):g1≠g2);have N5:=zz (by rw [hg];exact Nat.ne_of_gt (zE (g:=g1) (o:= .cells #[.int .i64 0,.string (⟨#[]⟩:ByteArray)] 135 (0,0)) (zq7 B4.1)):g2≠g1);replace B0:=zz (zj (g:=g0) (o:= .cells #[.int .i64 a0,.string a1] 140 (0,0)) (zq7 B0.1) hb);replace B4:=zz (zj (g:=g1) (o:= .cells #[.int .i64 0,.string (⟨#[]⟩:ByteArray)] 135 (0,0)) (zq7 B4.1) hb);replace HB:=zz (zf (zq13 G0.1 G1.1) hb);clear hb hbox hg;have hnb5:=N0.1;have hnc5:=N1.1;have hnb6:=N2.1;have hnc6:=N3.1;obtain ⟨_,_,_,_⟩:=zba B0.1;have hnb8:=N5.1;have hnc8:=N4.1;obtain ⟨_,_,_,_⟩:=zba B5.1;obtain ⟨_,_,_,_⟩:=zba B4.1))
 refine bodyPost_ret (results_cell_row rfl _ _ g1 135 #[.int .i64 a0,.string a1] (0,0) _ rfl (by (with_reducible repeat (first|refine zC ?_ _|refine zH ?_|refine zo ?_ _));refine zv (cs:= #[.int .i64 a0,.string (⟨#[]⟩:ByteArray)]) ?_ 1 _ rfl;(with_reducible repeat (first|refine zC ?_ _|refine zH ?_|refine zo ?_ _));refine zv (cs:= #[.int .i64 0,.string (⟨#[]⟩:ByteArray)]) ?_ 0 _ rfl;(with_reducible repeat (first|refine zC ?_ _|refine zH ?_|refine zo ?_ _));refine zqb ?_ N4.1 _;(with_reducible repeat (first|refine zC ?_ _|refine zH ?_|refine zo ?_ _));refine zqb ?_ N4.1 _;(with_reducible repeat (first|refine zC ?_ _|refine zH ?_|refine zo ?_ _));exact B4.1) Try.underlying135 rfl zq8) rfl ?_
 exact ⟨zq9,zq25 G0.1 G1.1 G2.1⟩
def laws_toPutS.l0:Nat→List (S140)→List (S135)→Int→Option ((List (S135)))
 |0,_,_,_=>none
 |k+1,x0,x3,x4=>if x4<(x0.length:Int) then (if 0≤x4 then ((laws_toPut.f ((zea x0 x4).f0) ((zea x0 x4).f1)).bind fun bt173=>(if x4<(x3.length:Int) then (laws_toPutS.l0 k x0 (x3.set (x4:Int).toNat (⟨bt173.1,bt173.2⟩:S135)) (wrap64 (x4+1))) else (none))) else (none)) else (some x3)
def laws_toPutS.f (k:Nat) (l0:List (S140)):Option ((List (S135))):=if 0≤(l0.length:Int) then (if ((l0.length:Int):Int).toNat≤11728124029610 then (laws_toPutS.l0 k l0 (List.replicate ((l0.length:Int):Int).toNat z135) 0) else (none)) else (none)
theorem laws_toPutS.mono_l:∀k,(∀y0 y1 y2,LeO (laws_toPutS.l0 k y0 y1 y2) (laws_toPutS.l0 (k+1) y0 y1 y2))
 |0=>fun _ _ _ r h=>by simp [laws_toPutS.l0] at h
 |k+1=>by
  have ih0:=laws_toPutS.mono_l k
  ·intro y0 y1 y2
   unfold laws_toPutS.l0
   exact zq90
theorem laws_toPutS.mono:∀a0 k,LeO (laws_toPutS.f k a0) (laws_toPutS.f (k+1) a0):=by
 intro a0 k
 have ih0:=laws_toPutS.mono_l k
 unfold laws_toPutS.f
 exact zq89
theorem laws_toPutS.calls (k:Nat) (A0:Option Addr) (c0:Nat) (l0:List (S140)) (r:List (S135)) (w:World) (hr0:Kd.C k140 w A0 l0.length l0) (hc0:l0.length≤c0) (h:laws_toPutS.f k l0=some r):
  Calls Try.prog 66 #[.slice A0 l0.length c0] w fun e w'=>∃v0:Value,e= .returned (v0)∧Kd.R k135 135 w' w.heap.size (fun _=>True) v0 r∧Below w.heap.size w w':=by
 have hu140:=Try.underlying140
 have hu135:=Try.underlying135
 have HR0:=zz hr0
 clear hr0 hc0
 have HB:=zz (z0a w.heap.size w)
 have H:(if 0≤(l0.length:Int) then (if ((l0.length:Int):Int).toNat≤11728124029610 then (laws_toPutS.l0 k l0 (List.replicate ((l0.length:Int):Int).toNat z135) 0) else (none)) else (none))=some r:=h
 clear h
 by_cases c2:0≤(l0.length:Int)
 ·rw [if_pos c2] at H
  have c2b0:=eq_true c2
  have c2b1:=z6 c2
  clear c2
  by_cases c3:((l0.length:Int):Int).toNat≤11728124029610
  ·rw [if_pos c3] at H
   have c3b0:=eq_true c3
   have c3b1:=z6 c3
   clear c3
   obtain ⟨y0,i0⟩:∃y_:List (S135),y_=(List.replicate ((l0.length:Int):Int).toNat z135):=⟨_,rfl⟩
   replace H:(laws_toPutS.l0 k l0 y0 0)=some r:=zq16
   have Y0:=zz i0
   clear i0
   have H':=zz H
   clear H
   go_enter Try.func66,Try.ntmps66
   go_wp2_with (first|((with_reducible refine zg (N:=7) rfl ?_);refine Kd.R_make k135 _ 135 rfl (N:=7) rfl 30 _ _ rfl (l0.length:Int) rfl rfl Try.underlying30 (.agg #[(.int .i64 0),(.string ⟨#[]⟩)]) 24 info135 rfl zq32 zq3 z135 (ok:=fun _=>True) (okp:=fun _=>True) (k135_mkM _ _ _ z135) (fun _ hk=>hk) trivial (z8 zq11) (z4a (z6a _ (z8 zq11:(l0.length:Int).toNat≤11728124029610)) zq3) (z0a _ _) (z2a _) ?_;intro v1 w4 ho5 hb hg_ hnew_;clear hg_ hnew_;(first|rw [←Y0.1] at ho5|(simp only [Int.reduceToNat] at ho5;rw [←Y0.1] at ho5));have O0:=zz (Kd.R_lower ho5 (zL zq0));replace HB:=zz (zf zq0 hb);clear hb ho5))
   go_loopg [4] k (fun kq v4 w'=>∃(x0:List (S135)) (x1:Int),v4= .int .i64 x1∧Z0 (laws_toPutS.l0 kq l0 x0 x1=some r)∧Z0 (kq≤k)∧Z0 (Kd.R k135 135 w' w.heap.size (fun _=>True) v1 x0)∧Z0 (Below w.heap.size w w'))
   case atStart=>exact ⟨(y0),(0),zq10,H',⟨z2a _⟩,⟨by (with_reducible repeat (first|apply Kd.R_alloc|apply Kd.R_drewN|apply Kd.R_drew));exact O0.1⟩,⟨zq0⟩⟩
   case round=>
    clear H'
    try clear c2
    try clear c2b0
    try clear c2b1
    try clear c3
    try clear c3b0
    try clear c3b1
    obtain ⟨x0,x1,rfl,HA,HK1,O1,HB⟩:=hrel
    cases gk with
    |zero=>exact absurd HA.1 (by simp [laws_toPutS.l0])
    |succ k1=>
     have H:=HA.1
     clear HA
     simp only [laws_toPutS.l0] at H
     by_cases c6:x1<(l0.length:Int)
     ·rw [if_pos c6] at H
      have c6b0:=z6 c6
      clear c6
      by_cases c7:0≤x1
      ·rw [if_pos c7] at H
       have c7b0:=z6 c7
       clear c7
       replace H:=z1a H
       obtain ⟨⟨t0,t1⟩,A1,H⟩:=H
       replace H:(if x1<(x0.length:Int) then (laws_toPutS.l0 k1 l0 (x0.set (x1:Int).toNat (⟨t0,t1⟩:S135)) (wrap64 (x1+1))) else (none))=some r:=H
       have A8:=zz A1
       clear A1
       by_cases c9:x1<(x0.length:Int)
       ·rw [if_pos c9] at H
        have c9b0:=z6 c9
        clear c9
        obtain ⟨y1,i1⟩:∃y_:List (S135),y_=(x0.set (x1:Int).toNat (⟨t0,t1⟩:S135)):=⟨_,rfl⟩
        replace H:(laws_toPutS.l0 k1 l0 y1 (wrap64 (x1+1)))=some r:=zq27
        have Y1:=zz i1
        clear i1
        have H':=zz H
        clear H
        have p0:0≤(x1:Int):=z8 zq11
        have q0:x1<(l0.length:Int):=z8 zq11
        obtain ⟨ad172,e0,k0,k2⟩:=at_T140 HR0.1 x1 p0 q0
        cases e0
        replace k0:=(HB.1.cell (z9 w _ k0)).trans k0
        replace k2:=(HB.1.cell (z9 w _ k2)).trans k2
        replace p0:=eq_true p0
        replace q0:=eq_true q0
        go_wp2_with (first|((with_reducible refine zn (f:=118) rfl ?_);refine zQ (some 20) rfl rfl Try.func118 zq8 rfl #[.agg #[.int .i64 ((zea l0 x1).f0),.string ((zea l0 x1).f1)]] rfl zq6 ?_;(with_reducible refine (laws_toPut.calls ((zea l0 x1).f0) ((zea l0 x1).f1) t0 t1 _ A8.1).mono ?_);rintro e w5 ⟨rfl,hb⟩;refine ⟨_,rfl,?_⟩;replace O1:=zz (Kd.R_below (zq28 O1.1) hb);replace HB:=zz (zf zq0 hb);(try clear hb);(try clear hb2);(try clear hk);(try clear hi);have p1:0≤(x1:Int):=z8 zq11;have q1:(x1:Int)<((x0.length:Int):Int):=z8 zq11;obtain ⟨go10,c1,e1,g0,gl10,cl10,HG10⟩:=Kd.R_form O1.1 zq3;(first|cases e1|(injection e1 with ea_ en_ ec_;(first|subst ea_|(injection ea_ with ea_;subst ea_));subst ec_;clear en_));have GB10:=zz g0;clear g0 gl10 HG10;obtain ⟨ce10,hcl10,hM10,hcc10,hfr10⟩:=Kd.R_elem O1.1 z135 (x1:Int) p1 q1;obtain rfl:=zTa hM10;have hx10_0:w5.cell? ⟨go10,(x1:Int).toNat*2,none⟩=some (.int .i64 ((zm x0 x1).f0)):=hcc10 0 _ rfl;have hx10_1:w5.cell? ⟨go10,(x1:Int).toNat*2+1,none⟩=some (.string ((zm x0 x1).f1)):=hcc10 1 _ rfl;have hf10_0:w5.frozen? ⟨go10,(x1:Int).toNat*2,none⟩=false:=hfr10 0;have hf10_1:w5.frozen? ⟨go10,(x1:Int).toNat*2+1,none⟩=false:=hfr10 1;clear hcl10 hcc10 hfr10 hM10;replace p1:=eq_true p1;replace q1:=eq_true q1;have HX12:=zz (show Kd.R k135 135 w5 w.heap.size (fun _=>True) (.slice (some ⟨go10,0,none⟩) x0.length c1) x0 from (zq28 O1.1));obtain ⟨ce12,hcl12,hM12,hcc12,hfr12⟩:=Kd.R_elem HX12.1 z135 (x1:Int) (z8 zq11) (zq61 O1.1);obtain rfl:=zTa hM12;have HP12:=Kd.R_seg HX12.1 (x1:Int) (z8 zq11) (zq61 O1.1) (seg:=[.int .i64 t0,.string t1]) (j:=0) hcl12 hcc12 (show 2≤2 from by decide) (x':=(⟨t0,t1⟩:S135)) (k135_mkM _ _ _ (⟨t0,t1⟩:S135)) (fun _ hk=>hk);have k3:=hcc12 0 _ rfl;(try simp only [show (k135).sz=2 from rfl,Nat.mul_one,Nat.add_zero] at k3);have hf12_0:=hfr12 0;(try simp only [show (k135).sz=2 from rfl,Nat.mul_one,Nat.add_zero] at hf12_0);have k4:=hcc12 1 _ rfl;(try simp only [show (k135).sz=2 from rfl,Nat.mul_one,Nat.add_zero] at k4);have hf12_1:=hfr12 1;(try simp only [show (k135).sz=2 from rfl,Nat.mul_one,Nat.add_zero] at hf12_1);clear hcl12 hcc12 hfr12 hM12)|((with_reducible refine zI (t:=135) (p:=21) rfl ?_);refine zwa (t:=135) (p:=21) (v:= ?vo_w13) (w1:=((w5.setCell ⟨go10,(x1:Int).toNat*2,none⟩ (.int .i64 t0)).setCell ⟨go10,(x1:Int).toNat*2+1,none⟩ (.string t1))) ?hg ?ho ?hn ?hr ?_;(case ho=>rfl);(case hg=>rfl);(case hn=>rfl);(case hr=>first|(go_simp;done)|(go_simp;rfl));intro w6 hw;have hg:w5.grownBy w6 (some go10):=(by rw [hw];exact HP12.2);have hp_:Kd.R k135 135 w6 w.heap.size (fun _=>True) (.slice (some ⟨go10,0,none⟩) x0.length c1) y1:=(by rw [hw,Y1.1];exact HP12.1);clear HP12;replace O1:=zz hp_;replace HB:=zz (by rw [hw];exact zD (zD (HB.1) GB10.1) GB10.1:Below w.heap.size w w6);clear hg hw hp_))
        exact zq142
       ·rw [if_neg c9] at H
        exact absurd H zq29
      ·exact zq141
     ·exact zq139
  ·exact zq131
 ·rw [if_neg c2] at H
  exact absurd H zq29
def laws_toDisk.f (k:Nat) (l0_0:List ByteArray) (l0_1:List (S140)):Option (List ByteArray×(List (S135))):=(laws_toStringS.f k l0_0).bind fun t179=>((laws_toPutS.f k l0_1).bind fun t182=>(some (t179,t182)))
theorem laws_toDisk.calls (k:Nat) (A0:Option Addr) (c0:Nat) (l2:List ByteArray) (A1:Option Addr) (c1:Nat) (l3:List (S140)) (r1:List ByteArray) (r2:List (S135)) (w:World) (r0:Kd.C Kd.string w A0 l2.length l2) (h0:l2.length≤c0) (r3:Kd.C k140 w A1 l3.length l3) (h2:l3.length≤c1) (h:laws_toDisk.f k l2 l3=some (r1,r2)):
  Calls Try.prog 24 #[.agg #[.slice A0 l2.length c0,.slice A1 l3.length c1]] w fun e w'=>∃v0 v1:Value,e= .returned (.agg #[v0,v1])∧Kd.R Kd.string 9 w' w.heap.size (fun _=>True) v0 r1∧Kd.R k135 135 w' w.heap.size (fun _=>True) v1 r2∧Below w.heap.size w w':=by
 have hu25:=Try.underlying25
 have hu32:=Try.underlying32
 have R0:=zz r0
 have C0:=zz h0
 clear r0 h0
 have R1:=zz r3
 have C1:=zz h2
 clear r3 h2
 have HB:=zz (z0a w.heap.size w)
 have H:((laws_toStringS.f k l2).bind fun t0=>((laws_toPutS.f k l3).bind fun t1=>(some (t0,t1))))=some (r1,r2):=h
 clear h
 replace H:=z1a H
 obtain ⟨t0,A4,H⟩:=H
 replace H:((laws_toPutS.f k l3).bind fun t1=>(some (t0,t1)))=some (r1,r2):=H
 have A2:=zz A4
 clear A4
 replace H:=z1a H
 obtain ⟨t1,A5,H⟩:=H
 replace H:(some (t0,t1))=some (r1,r2):=H
 have A3:=zz A5
 clear A5
 simp only [Option.some.injEq,Prod.mk.injEq] at H
 obtain ⟨rfl,rfl⟩:=H
 go_enter Try.func24,Try.ntmps24
 go_wp2_with (first|((with_reducible refine zg (N:=1) rfl ?_);refine zA rfl (N:=1) rfl (cs:= #[.slice A0 l2.length c0,.slice A1 l3.length c1]) (t:=25) zq26 ?_;intro g0 hg w4 hbox hb;have B0:=zz hbox;have G0:=zz (zq12:w.heap.size≤g0);replace HB:=zz (zf zq0 hb);clear hb hbox hg)|((with_reducible refine zg (N:=2) rfl ?_);refine zA rfl (N:=2) rfl (cs:= #[.slice none 0 0,.slice none 0 0]) (t:=32) zq26 ?_;intro g1 hg w5 hbox hb;have B4:=zz hbox;have G1:=zz (zq24 G0.1:w.heap.size≤g1);have N0:=zz (zq48 B0.1:g0≠g1);have N1:=zz (zq49 B0.1:g1≠g0);replace B0:=zz (zj (g:=g0) (o:= .cells #[.slice A0 l2.length c0,.slice A1 l3.length c1] 25 (0,0)) (zq7 B0.1) hb);replace HB:=zz (zf (zq4 G0.1) hb);clear hb hbox hg)|((with_reducible refine zg (N:=3) rfl ?_);refine zA rfl (N:=3) rfl (cs:= #[.slice none 0 0,.slice none 0 0]) (t:=32) zq26 ?_;intro g2 hg w6 hbox hb;have B5:=zz hbox;have G2:=zz (zq55 G0.1 G1.1:w.heap.size≤g2);have N2:=zz (zq48 B0.1:g0≠g2);have N3:=zz (zq49 B0.1:g2≠g0);have N4:=zz (by rw [hg];exact Nat.ne_of_lt (zE (g:=g1) (o:= .cells #[.slice none 0 0,.slice none 0 0] 32 (0,0)) (zq7 B4.1)):g1≠g2);have N5:=zz (by rw [hg];exact Nat.ne_of_gt (zE (g:=g1) (o:= .cells #[.slice none 0 0,.slice none 0 0] 32 (0,0)) (zq7 B4.1)):g2≠g1);replace B0:=zz (zj (g:=g0) (o:= .cells #[.slice A0 l2.length c0,.slice A1 l3.length c1] 25 (0,0)) (zq7 B0.1) hb);replace B4:=zz (zj (g:=g1) (o:= .cells #[.slice none 0 0,.slice none 0 0] 32 (0,0)) (zq7 B4.1) hb);replace HB:=zz (zf (zq13 G0.1 G1.1) hb);clear hb hbox hg;have hnb7:=N0.1;have hnc7:=N1.1;have hnb8:=N2.1;have hnc8:=N3.1;obtain ⟨_,_,_,_⟩:=zba B0.1)|((with_reducible refine zn (f:=57) rfl ?_);refine zQ (some 6) rfl rfl Try.func57 zq8 rfl #[.slice A0 l2.length c0] rfl zq6 ?_;(with_reducible refine (laws_toStringS.calls k _ _ l2 t0 _ ?side1 ?side2 A2.1).mono ?_);(case side1=>repeat (first|exact (Kd.C_below R0.1 HB.1)|(with_reducible refine Kd.C_alloc ?_ _)|(with_reducible refine Kd.C_drewN ?_ _)|(with_reducible refine Kd.C_drew ?_)));(case side2=>exact C0.1);rintro e w10 ⟨v180,rfl,ho0,hb⟩;refine ⟨_,rfl,?_⟩;(first|have rs_v180:=one_store (P:=Try.prog) ho0|have rs_v180:=one_store (P:=Try.prog) (Kd.S_R ho0)|skip);have O0:=zz (Kd.R_lower ho0 (zL (zq25 G0.1 G1.1 G2.1)));replace B0:=zz (zj (g:=g0) (o:= .cells #[.slice A0 l2.length c0,.slice A1 l3.length c1] 25 (0,0)) (zq7 B0.1) hb);replace B4:=zz (zj (g:=g1) (o:= .cells #[.slice none 0 0,.slice none 0 0] 32 (0,0)) (zq7 B4.1) hb);replace B5:=zz (zj (g:=g2) (o:= .cells #[.slice none 0 0,.slice none 0 0] 32 (0,0)) (zq7 B5.1) hb);replace HB:=zz (zf (zq25 G0.1 G1.1 G2.1) hb);(try clear hb);(try clear hb2);(try clear hk);(try clear hi);(try clear ho0);obtain ⟨A6,c11,e0⟩:=Kd.R_slice O0.1;subst e0;have hnb12:=N5.1;have hnc12:=N4.1;obtain ⟨_,_,_,_⟩:=zba B5.1;obtain ⟨_,_,_,_⟩:=zba B0.1)|((with_reducible refine zn (f:=66) rfl ?_);refine zQ (some 10) rfl rfl Try.func66 zq8 rfl #[.slice A1 l3.length c1] rfl zq6 ?_;(with_reducible refine (laws_toPutS.calls k _ _ l3 t1 _ ?side1 ?side2 A3.1).mono ?_);(case side1=>exact Kd.C_below R1.1 (zq25 G0.1 G1.1 G2.1));(case side2=>exact C1.1);rintro e w15 ⟨v183,rfl,ho0,hb⟩;refine ⟨_,rfl,?_⟩;(first|have rs_v183:=one_store (P:=Try.prog) ho0|have rs_v183:=one_store (P:=Try.prog) (Kd.S_R ho0)|skip);have O1:=zz (Kd.R_lower ho0 (zL (zq25 G0.1 G1.1 G2.1)));replace O0:=zz (Kd.R_below (by (with_reducible repeat (first|apply Kd.R_alloc|apply Kd.R_drewN|apply Kd.R_drew));exact (Kd.R_mono (Kd.R_far (p:=⟨g2,0,none⟩) (Kd.R_types O0.1 B5.1 zq32) (fun _ hk=>hk.2) (.slice A6 t0.length c11)) (fun _ h_=>h_.1))) hb);replace B0:=zz (zj (g:=g0) (o:= .cells #[.slice A0 l2.length c0,.slice A1 l3.length c1] 25 (0,0)) (zq52 N2.1 B0.1) hb);replace B4:=zz (zj (g:=g1) (o:= .cells #[.slice none 0 0,.slice none 0 0] 32 (0,0)) (zq52 N4.1 B4.1) hb);replace B5:=zz (zj (g:=g2) (o:= .cells #[.slice A6 t0.length c11,.slice none 0 0] 32 (0,0)) (by (with_reducible repeat (first|refine zC ?_ _|refine zH ?_|refine zo ?_ _));refine zv (cs:= #[.slice none 0 0,.slice none 0 0]) ?_ 0 _ rfl;(with_reducible repeat (first|refine zC ?_ _|refine zH ?_|refine zo ?_ _));exact B5.1) hb);replace HB:=zz (zf (zq25 G0.1 G1.1 G2.1) hb);(try clear hb);(try clear hb2);(try clear hk);(try clear hi);(try clear ho0);obtain ⟨A7,c12,e1⟩:=Kd.R_slice O1.1;subst e1;obtain ⟨_,_,_,_⟩:=zba B5.1;obtain ⟨_,_,_,_⟩:=zba B4.1))
 refine bodyPost_ret (results_cell_row rfl _ _ g1 32 #[.slice A6 t0.length c11,.slice A7 t1.length c12] (0,0) _ rfl (by (with_reducible repeat (first|refine zC ?_ _|refine zH ?_|refine zo ?_ _));refine zv (cs:= #[.slice A6 t0.length c11,.slice none 0 0]) ?_ 1 _ rfl;(with_reducible repeat (first|refine zC ?_ _|refine zH ?_|refine zo ?_ _));refine zv (cs:= #[.slice none 0 0,.slice none 0 0]) ?_ 0 _ rfl;(with_reducible repeat (first|refine zC ?_ _|refine zH ?_|refine zo ?_ _));refine zqb ?_ N4.1 _;(with_reducible repeat (first|refine zC ?_ _|refine zH ?_|refine zo ?_ _));exact B4.1) Try.underlying32 rfl zq8) rfl ?_
 exact ⟨_,_,zq9,zq33 O0.1 B5.1 B4.1,zq33 O1.1 B5.1 B4.1,zq25 G0.1 G1.1 G2.1⟩
def slices_Clone_string_string.f (l0:List ByteArray):Option (List ByteArray):=if l0.length<8796093022208 then some l0 else none
theorem slices_Clone_string_string.calls (A0:Option Addr) (c0:Nat) (l0:List ByteArray) (r:List ByteArray) (w:World) (hr0:Kd.C Kd.string w A0 l0.length l0) (hc0:l0.length≤c0) (h:slices_Clone_string_string.f l0=some r):
  Calls Try.prog 126 #[.slice A0 l0.length c0] w fun e w'=>∃v0:Value,e= .returned v0∧Kd.R Kd.string 9 w' w.heap.size (fun _=>True) v0 r∧Below w.heap.size w w':=by
 unfold slices_Clone_string_string.f at h
 split at h
 ·rename_i hlim
  obtain rfl:=z5a h
  cases A0 with
  |none=>
   have hz:l0=[]:=zq161
   subst hz
   clear hr0 hlim h hc0
   have q:=fun (w:World) (n c n' c':Nat)=>Lib.run_eql_slice_nil (P:=Try.prog) w 22 9 none n c n' c' Try.underlying22
   go_enter Try.func126,Try.ntmps126
   go_wp2
   go_ret
   exact ⟨_,rfl,Kd.R_nil _ _ _ _ _,z0a _ _⟩
  |some ad=>
   have HR:=zz hr0
   have HL:=zz hlim
   clear hr0 hc0 h hlim
   have q:=fun (w:World) (a:Addr) (n c n' c':Nat)=>Lib.run_eql_slice_nil (P:=Try.prog) w 22 9 (some a) n c n' c' Try.underlying22
   go_enter Try.func126,Try.ntmps126
   go_wp2_with (at_builtin;refine Kd.R_append_rows Kd.string (w0:=w) (Rr:=Kd.K Kd.string (w.alloc (.cells #[] 9))) w.heap.size rfl (.tmp 5) (.tmp 6) 22 9 (.string ⟨#[]⟩) 16 rfl Try.underlying22 info9 rfl zq32 zq32 (.slice (some ⟨w.heap.size,0,none⟩) 0 0) [] l0 (some ad) l0.length c0 (fun _=>True) (fun _=>False) rfl rfl ⟨fun _ _=>trivial,[],World.ownsRow_made w #[] 0 (z2a _) zq32 zq29,Reps.none _ _⟩ (Kd.C_below HR.1 (zi (z0a _ _) _)) (fun _ _ hk=>hk) (fun _ hk=>hk.elim) (fun _ _=>trivial) (zi (z0a _ _) _) zq29 (by have:=HL.1;simp only [List.length_nil];omega) ?_;intro v1 w1 hR hB _ _;have H1:=zz hR;have H2:=zz hB;clear hR hB)
   go_ret
   exact ⟨_,rfl,H1.1,H2.1⟩
 ·cases h
def impl_Put.f (l0:List S135):Option (List S135):=if l0.length<5864062014805 then some l0 else none
theorem impl_Put.calls (A0:Option Addr) (c0:Nat) (l0:List S135) (r:List S135) (w:World) (hr0:Kd.C k135 w A0 l0.length l0) (hc0:l0.length≤c0) (h:impl_Put.f l0=some r):
  Calls Try.prog 127 #[.slice A0 l0.length c0] w fun e w'=>∃v0:Value,e= .returned v0∧Kd.R k135 135 w' w.heap.size (fun _=>True) v0 r∧Below w.heap.size w w':=by
 unfold impl_Put.f at h
 split at h
 ·rename_i hlim
  obtain rfl:=z5a h
  cases A0 with
  |none=>
   have hz:l0=[]:=zq161
   subst hz
   clear hr0 hlim h hc0
   have q:=fun (w:World) (n c n' c':Nat)=>Lib.run_eql_slice_nil (P:=Try.prog) w 30 135 none n c n' c' Try.underlying30
   go_enter Try.func127,Try.ntmps127
   go_wp2
   go_ret
   exact ⟨_,rfl,Kd.R_nil _ _ _ _ _,z0a _ _⟩
  |some ad=>
   have HR:=zz hr0
   have HL:=zz hlim
   clear hr0 hc0 h hlim
   have q:=fun (w:World) (a:Addr) (n c n' c':Nat)=>Lib.run_eql_slice_nil (P:=Try.prog) w 30 135 (some a) n c n' c' Try.underlying30
   go_enter Try.func127,Try.ntmps127
   go_wp2_with (at_builtin;refine Kd.R_append_rows k135 (w0:=w) (Rr:=Kd.K k135 (w.alloc (.cells #[] 135))) w.heap.size rfl (.tmp 5) (.tmp 6) 30 135 (.agg #[.int .i64 0,.string ⟨#[]⟩]) 24 rfl Try.underlying30 info135 rfl zq32 zq32 (.slice (some ⟨w.heap.size,0,none⟩) 0 0) [] l0 (some ad) l0.length c0 (fun _=>True) (fun _=>False) rfl rfl ⟨fun _ _=>trivial,[],World.ownsRow_made w #[] 0 (z2a _) zq32 zq29,Reps.none _ _⟩ (Kd.C_below HR.1 (zi (z0a _ _) _)) (fun _ _ hk=>hk) (fun _ hk=>hk.elim) (fun _ _=>trivial) (zi (z0a _ _) _) zq29 (by have:=HL.1;simp only [List.length_nil];omega) ?_;intro v1 w1 hR hB _ _;have H1:=zz hR;have H2:=zz hB;clear hR hB)
   go_ret
   exact ⟨_,rfl,H1.1,H2.1⟩
 ·cases h
def impl_cloneDisk.f (l0_0:List ByteArray) (l0_1:List (S135)):Option (List ByteArray×(List (S135))):=(slices_Clone_string_string.f l0_0).bind fun t210=>((impl_Put.f l0_1).bind fun t213=>(some (t210,t213)))
def impl_cloneDisk.T1:Bool×List (List Nat×List Nat):=(true,[([],[]),([0],[0]),([1],[1]),([],[]),([3],[3]),([4,2],[4]),([2,5],[2,5]),([6,5,0,1,2,3,4,5,6],[6])])
def impl_cloneDisk.B1:List Nat:=[0,1,3,0,8,31,63,127]
theorem impl_cloneDisk.tab1:rtab .any (zgb Try.f69 1)=impl_cloneDisk.T1:=zq8
theorem impl_cloneDisk.bits1:zqa impl_cloneDisk.T1.2 impl_cloneDisk.B1=true:=zq8
theorem impl_cloneDisk.calls (A0:Option Addr) (c0:Nat) (l2:List ByteArray) (A1:Option Addr) (c1:Nat) (l3:List (S135)) (r1:List ByteArray) (r2:List (S135)) (w:World) (r0:Kd.C Kd.string w A0 l2.length l2) (h0:l2.length≤c0) (r3:Kd.C k135 w A1 l3.length l3) (h2:l3.length≤c1) (h:impl_cloneDisk.f l2 l3=some (r1,r2)):
  Calls Try.prog 69 #[.agg #[.slice A0 l2.length c0,.slice A1 l3.length c1]] w fun e w'=>∃v0 v1:Value,e= .returned (.agg #[v0,v1])∧Kd.R Kd.string 9 w' w.heap.size (fun _=>True) v0 r1∧Kd.R k135 135 w' w.heap.size (fun _=>True) v1 r2∧Below w.heap.size w w':=by
 have hu32:=Try.underlying32
 have R0:=zz r0
 have C0:=zz h0
 clear r0 h0
 have R1:=zz r3
 have C1:=zz h2
 clear r3 h2
 have HB:=zz (z0a w.heap.size w)
 have H:((slices_Clone_string_string.f l2).bind fun t0=>((impl_Put.f l3).bind fun t1=>(some (t0,t1))))=some (r1,r2):=h
 clear h
 replace H:=z1a H
 obtain ⟨t0,A4,H⟩:=H
 replace H:((impl_Put.f l3).bind fun t1=>(some (t0,t1)))=some (r1,r2):=H
 have A2:=zz A4
 clear A4
 replace H:=z1a H
 obtain ⟨t1,A5,H⟩:=H
 replace H:(some (t0,t1))=some (r1,r2):=H
 have A3:=zz A5
 clear A5
 simp only [Option.some.injEq,Prod.mk.injEq] at H
 obtain ⟨rfl,rfl⟩:=H
 go_enter Try.func69,Try.ntmps69
 try go_wp2_with (first|((with_reducible refine zg (N:=1) rfl ?_);refine zA rfl (N:=1) rfl (cs:= #[.slice A0 l2.length c0,.slice A1 l3.length c1]) (t:=32) zq26 ?_;intro g0 hg w4 hbox hb;have B0:=zz hbox;have G0:=zz (zq12:w.heap.size≤g0);replace HB:=zz (zf zq0 hb);clear hb hbox hg)|((with_reducible refine zg (N:=2) rfl ?_);refine zA rfl (N:=2) rfl (cs:= #[.slice none 0 0,.slice none 0 0]) (t:=32) zq26 ?_;intro g1 hg w5 hbox hb;have B4:=zz hbox;have G1:=zz (zq24 G0.1:w.heap.size≤g1);have N0:=zz (zq50 B0.1:g0≠g1);have N1:=zz (zq51 B0.1:g1≠g0);replace B0:=zz (zj (g:=g0) (o:= .cells #[.slice A0 l2.length c0,.slice A1 l3.length c1] 32 (0,0)) (zq7 B0.1) hb);replace HB:=zz (zf (zq4 G0.1) hb);clear hb hbox hg))
 have n0:=zz (zH B0.1)
 have n1:=zz (zH B4.1)
 have n2:=zz (zx HB.1)
 clear B0
 clear B4
 clear HB
 have B0:=n0
 have B4:=n1
 have HB:=n2
 clear n0 n1 n2
 refine zGa (n:=8) (S:=fun w'=>w'.cell? ⟨g0,0,none⟩=some (.slice A0 l2.length c0)∧w'.cell? ⟨g0,1,none⟩=some (.slice A1 l3.length c1)) (ds:=[]) #[false,false,false,false,false,false,false,false] zq8 rfl rfl ⟨(zd B0.1 0).trans rfl,(zd B0.1 1).trans rfl⟩ (fun hHeld=> ?_);refine zW impl_cloneDisk.tab1 impl_cloneDisk.bits1 (fun HT_ HW_=> ?_)
 generalize w5.drew=w6 at B0 B4 HB hHeld ⊢
 refine zr (i:=0) (N:=some 3) (v:= ?_) (a':= ?_) #[true,false,false,false,false,false,false,false] rfl rfl (zk HT_.1 zq8) (fun _ _ _ h=>h) (Or.inl ⟨zq19,zq5⟩) zq1 ?_
 refine zr (i:=3) (N:=some 6) (v:= ?_) (a':= ?_) #[true,false,false,true,false,false,false,false] rfl rfl (zk HT_.1 zq8) (fun _ _ _ h=>h) (Or.inl ⟨zq19,zq5⟩) zq1 ?_
 refine take_ (i:=1) (N:=some 4) (v:= ?_) (a':= ?_) #[true,true,false,true,false,false,false,false] rfl rfl (zFa HT_.1 HW_.1 zq8) (fun _ _ _ h=>h) (Or.inl ⟨zq19,zq57⟩) hHeld zq1 ?_
 refine take_ (i:=4) (N:=some 7) (v:= ?_) (a':= ?_) #[true,true,false,true,true,false,false,false] rfl rfl (zFa HT_.1 HW_.1 zq8) (fun _ _ _ h=>h) (Or.inl ⟨zq19,zq57⟩) hHeld zq1 ?_
 refine one_ (i:=2) (N:=some 5) #[true,true,true,true,true,false,false,false] rfl rfl (zpa HT_.1 zq8) zq32 (fun K hK=> ?_)
 refine zjb Try.func126 zq8 rfl #[.slice A0 l2.length c0] zq19 rfl rfl zq6 ?_
 with_reducible refine (slices_Clone_string_string.calls _ _ l2 t0 _ ?side1 ?side2 A2.1).mono ?_
 (case side1=>repeat (first|exact (Kd.C_below R0.1 HB.1)|(with_reducible refine Kd.C_alloc ?_ _)|(with_reducible refine Kd.C_drewN ?_ _)|(with_reducible refine Kd.C_drew ?_)))
 (case side2=>exact C0.1)
 rintro e w7 ⟨v211,rfl,ho0,hb⟩
 refine ⟨_,rfl,?_⟩
 have n0:=zz (Kd.R_lower ho0 (zL (zq13 G0.1 G1.1)))
 have n1:=zz (zj (g:=g0) (o:= .cells #[.slice A0 l2.length c0,.slice A1 l3.length c1] 32 (0,0)) (zq7 B0.1) hb)
 have n2:=zz (zj (g:=g1) (o:= .cells #[.slice none 0 0,.slice none 0 0] 32 (0,0)) (zq7 B4.1) hb)
 have n3:=zz (zf (zq13 G0.1 G1.1) hb)
 clear B0
 clear B4
 clear HB
 have O0:=n0
 have B0:=n1
 have B4:=n2
 have HB:=n3
 clear n0 n1 n2 n3
 (try clear hb)
 (try clear hb2)
 (try clear hk)
 (try clear hi)
 (try clear ho0)
 refine hK.out _ _ ⟨(zd B0.1 0).trans rfl,(zd B0.1 1).trans rfl⟩ (fun hHeld=> ?_)
 clear hK K
 refine norm_ (a':= ?_) ?_ ?_
 rotate_left
 ·show Act.put _ (some 5) _=_
  exact zq86
 refine one_ (i:=5) (N:=some 8) #[true,true,true,true,true,true,false,false] rfl rfl (zpa HT_.1 zq8) zq32 (fun K hK=> ?_)
 refine zjb Try.func127 zq8 rfl #[.slice A1 l3.length c1] zq19 rfl rfl zq6 ?_
 with_reducible refine (impl_Put.calls _ _ l3 t1 _ ?side1 ?side2 A3.1).mono ?_
 (case side1=>repeat (first|exact (Kd.C_below R1.1 HB.1)|(with_reducible refine Kd.C_alloc ?_ _)|(with_reducible refine Kd.C_drewN ?_ _)|(with_reducible refine Kd.C_drew ?_)))
 (case side2=>exact C1.1)
 rintro e w8 ⟨v214,rfl,ho0,hb⟩
 refine ⟨_,rfl,?_⟩
 have n0:=zz (Kd.R_below (zq28 O0.1) hb)
 have n1:=zz (Kd.R_lower ho0 (zL (zq13 G0.1 G1.1)))
 have n2:=zz (zj (g:=g0) (o:= .cells #[.slice A0 l2.length c0,.slice A1 l3.length c1] 32 (0,0)) (zq7 B0.1) hb)
 have n3:=zz (zj (g:=g1) (o:= .cells #[.slice none 0 0,.slice none 0 0] 32 (0,0)) (zq7 B4.1) hb)
 have n4:=zz (zf (zq13 G0.1 G1.1) hb)
 clear O0
 clear B0
 clear B4
 clear HB
 have O0:=n0
 have O1:=n1
 have B0:=n2
 have B4:=n3
 have HB:=n4
 clear n0 n1 n2 n3 n4
 (try clear hb)
 (try clear hb2)
 (try clear hk)
 (try clear hi)
 (try clear ho0)
 obtain ⟨Ao9,co9,eo9⟩:=Kd.R_slice O1.1
 (first|subst eo9|(injection eo9 with f1_ f2_ f3_;have f4_:=f1_.symm;have f5_:=f3_.symm;clear f1_ f2_ f3_;subst f4_;subst f5_))
 obtain ⟨A6,c11,e0⟩:=Kd.R_slice O0.1
 (first|subst e0|(injection e0 with f1_ f2_ f3_;have f4_:=f1_.symm;have f5_:=f3_.symm;clear f1_ f2_ f3_;subst f4_;subst f5_))
 refine hK.out _ _ ⟨(zd B0.1 0).trans rfl,(zd B0.1 1).trans rfl⟩ (fun hHeld=> ?_)
 clear hK K
 refine norm_ (a':= ?_) ?_ ?_
 rotate_left
 ·show Act.put _ (some 8) _=_
  exact zq86
 refine zr (i:=6) (N:=some 9) (v:= ?_) (a':= ?_) #[true,true,true,true,true,true,true,false] rfl rfl (zk HT_.1 zq8) (fun _ _ _ h=>h) (Or.inl ⟨zq19,zq5⟩) zq1 ?_
 refine one_ (i:=7) (N:=none) #[true,true,true,true,true,true,true,true] rfl rfl (zpa HT_.1 zq8) zq32 (fun K hK=> ?_)
 have hs11:w8.cell? ⟨g1,0,none⟩=some (.slice none 0 0):=(zd B4.1 0).trans rfl
 have hfs11:=zh B4.1 0
 have hns11_0:=N0.1
 have hms11_0:=N1.1
 have hs12:w8.cell? ⟨g1,1,none⟩=some (.slice none 0 0):=(zd B4.1 1).trans rfl
 have hfs12:=zh B4.1 1
 have hns12_0:=N0.1
 have hms12_0:=N1.1
 refine skip_ (w1:= ?_) zq19 rfl ?_ ?_
 rotate_left
 ·go_simp
  rfl
 refine hK.out _ _ ⟨((cell_far (p:=⟨g1,_,none⟩) N0.1 _).trans (((cell_far (p:=⟨g1,_,none⟩) N0.1 _).trans (hHeld.1)))),((cell_far (p:=⟨g1,_,none⟩) N0.1 _).trans (((cell_far (p:=⟨g1,_,none⟩) N0.1 _).trans (hHeld.2))))⟩ (fun hHeld=> ?_)
 clear hK K
 refine done_ (done_of HT_.1 zq8) ?_
 try go_wp2
 refine bodyPost_ret (results_cell_row rfl _ _ g1 32 #[.slice A6 t0.length c11,.slice Ao9 t1.length co9] (0,0) _ rfl (by (with_reducible repeat (first|refine zC ?_ _|refine zH ?_|refine zo ?_ _));refine zv (cs:= #[.slice A6 t0.length c11,.slice none 0 0]) ?_ 1 _ rfl;(with_reducible repeat (first|refine zC ?_ _|refine zH ?_|refine zo ?_ _));refine zv (cs:= #[.slice none 0 0,.slice none 0 0]) ?_ 0 _ rfl;(with_reducible repeat (first|refine zC ?_ _|refine zH ?_|refine zo ?_ _));exact B4.1) Try.underlying32 rfl zq8) rfl ?_
 exact ⟨_,_,zq9,zq42 O0.1 B4.1,zq42 O1.1 B4.1,zq13 G0.1 G1.1⟩
def laws_eqStringS.l0:Nat→List ByteArray→List ByteArray→Int→Option (Bool)
 |0,_,_,_=>none
 |k+1,x0,x1,x5=>if x5<(x0.length:Int) then (if 0≤x5 then (if x5<(x1.length:Int) then (if (zkb ByteArray.empty x0 x5).toList=(zkb ByteArray.empty x1 x5).toList then (laws_eqStringS.l0 k x0 x1 (wrap64 (x5+1))) else (none)) else (none)) else (none)) else (some true)
def laws_eqStringS.f (k:Nat) (l0:List ByteArray) (l1:List ByteArray):Option (Bool):=if (l0.length:Int)=(l1.length:Int) then (laws_eqStringS.l0 k l0 l1 0) else (none)
theorem laws_eqStringS.mono_l:∀k,(∀y0 y1 y2,LeO (laws_eqStringS.l0 k y0 y1 y2) (laws_eqStringS.l0 (k+1) y0 y1 y2))
 |0=>fun _ _ _ r h=>by simp [laws_eqStringS.l0] at h
 |k+1=>by
  have ih0:=laws_eqStringS.mono_l k
  ·intro y0 y1 y2
   unfold laws_eqStringS.l0
   exact zq90
theorem laws_eqStringS.mono:∀a0 a1 k,LeO (laws_eqStringS.f k a0 a1) (laws_eqStringS.f (k+1) a0 a1):=by
 intro a0 a1 k
 have ih0:=laws_eqStringS.mono_l k
 unfold laws_eqStringS.f
 exact zq89
theorem laws_eqStringS.calls (k:Nat) (A0:Option Addr) (c0:Nat) (l0:List ByteArray) (A1:Option Addr) (c1:Nat) (l1:List ByteArray) (r:Bool) (w:World) (hr0:Kd.C Kd.string w A0 l0.length l0) (hc0:l0.length≤c0) (hr1:Kd.C Kd.string w A1 l1.length l1) (hc1:l1.length≤c1) (h:laws_eqStringS.f k l0 l1=some r):
  Calls Try.prog 60 #[.slice A0 l0.length c0,.slice A1 l1.length c1] w fun e w'=>e= .returned (.bool r)∧Drawn0 w w':=by
 have HR0:=zz hr0
 clear hr0 hc0
 have HR1:=zz hr1
 clear hr1 hc1
 have H:(if (l0.length:Int)=(l1.length:Int) then (laws_eqStringS.l0 k l0 l1 0) else (none))=some r:=h
 clear h
 by_cases c3:(l0.length:Int)=(l1.length:Int)
 ·rw [if_pos c3] at H
  have c3b0:((l0.length:Int)==(l1.length:Int))=true:=beq_iff_eq.mpr c3
  have c3b1:((l0.length:Int) !=(l1.length:Int))=false:=bne_eq_false_iff_eq.mpr c3
  have c3b2:(l0.length==l1.length)=true:=zq71
  clear c3
  have H':=zz H
  clear H
  go_enter Try.func60,Try.ntmps60
  go_wp2
  repeat (go_quiet (fail);try go_wp2)
  go_loopg [5] k (fun kq v5 w'=>∃(x0:Int),v5= .int .i64 x0∧Z0 (laws_eqStringS.l0 kq l0 l1 x0=some r)∧Z0 (kq≤k)∧Drawn0 w w')
  case atStart=>exact ⟨(0),zq10,H',⟨z2a _⟩,zq15⟩
  case round=>
   clear H'
   try clear c1
   try clear c3
   try clear c3b0
   try clear c3b1
   try clear c3b2
   obtain ⟨x0,rfl,HA,HK1,⟨m1,rfl⟩⟩:=hrel
   cases gk with
   |zero=>exact absurd HA.1 (by simp [laws_eqStringS.l0])
   |succ k1=>
    have H:=HA.1
    clear HA
    simp only [laws_eqStringS.l0] at H
    by_cases c4:x0<(l0.length:Int)
    ·rw [if_pos c4] at H
     have c4b0:=z6 c4
     clear c4
     by_cases c5:0≤x0
     ·rw [if_pos c5] at H
      have c5b0:=z6 c5
      clear c5
      by_cases c6:x0<(l1.length:Int)
      ·rw [if_pos c6] at H
       have c6b0:=z6 c6
       clear c6
       by_cases c7:(zkb ByteArray.empty l0 x0).toList=(zkb ByteArray.empty l1 x0).toList
       ·rw [if_pos c7] at H
        have c7b0:((zkb ByteArray.empty l0 x0).toList==(zkb ByteArray.empty l1 x0).toList)=true:=beq_iff_eq.mpr c7
        have c7b1:((zkb ByteArray.empty l0 x0).toList !=(zkb ByteArray.empty l1 x0).toList)=false:=bne_eq_false_iff_eq.mpr c7
        clear c7
        have H':=zz H
        clear H
        have p0:0≤(x0:Int):=z8 zq11
        have q0:x0<(l0.length:Int):=z8 zq11
        obtain ⟨ad262,e0,hx262_0⟩:=Kd.at_string HR0.1 x0 p0 q0
        cases e0
        replace p0:=eq_true p0
        replace q0:=eq_true q0
        have p1:0≤(x0:Int):=z8 zq11
        have q1:x0<(l1.length:Int):=z8 zq11
        obtain ⟨ad263,e1,hx263_0⟩:=Kd.at_string HR1.1 x0 p1 q1
        exact zq140
       ·exact zq141
      ·exact zq145
     ·exact zq105
    ·exact zq149
 ·exact zq131
def laws_eqPut.f (a0_0:Int) (a0_1:ByteArray) (a1_0:Int) (a1_1:ByteArray):Option (Bool):=if a0_0=a1_0 then (if a0_1.toList=a1_1.toList then (some true) else (none)) else (none)
theorem laws_eqPut.calls (a0:Int) (a1:ByteArray) (a2:Int) (a3:ByteArray) (r:Bool) (w:World) (h:laws_eqPut.f a0 a1 a2 a3=some r):
  Calls Try.prog 129 #[.agg #[.int .i64 a0,.string a1],.agg #[.int .i64 a2,.string a3]] w fun e w'=>e= .returned (.bool r)∧Below w.heap.size w w':=by
 have hu135:=Try.underlying135
 have HB:=zz (z0a w.heap.size w)
 have H:(if a0=a2 then (if a1.toList=a3.toList then (some true) else (none)) else (none))=some r:=h
 clear h
 by_cases c3:a0=a2
 ·rw [if_pos c3] at H
  have c3b0:(a0==a2)=true:=beq_iff_eq.mpr c3
  have c3b1:(a0 !=a2)=false:=bne_eq_false_iff_eq.mpr c3
  clear c3
  by_cases c4:a1.toList=a3.toList
  ·rw [if_pos c4] at H
   have c4b0:(a1.toList==a3.toList)=true:=beq_iff_eq.mpr c4
   have c4b1:(a1.toList !=a3.toList)=false:=bne_eq_false_iff_eq.mpr c4
   clear c4
   obtain rfl:=z5a H
   go_enter Try.func129,Try.ntmps129
   go_wp2_with (first|((with_reducible refine zg (N:=2) rfl ?_);refine zA rfl (N:=2) rfl (cs:= #[.int .i64 a0,.string a1]) (t:=135) zq26 ?_;intro g0 hg w5 hbox hb;have B0:=zz hbox;have G0:=zz (zq12:w.heap.size≤g0);replace HB:=zz (zf zq0 hb);clear hb hbox hg)|((with_reducible refine zg (N:=3) rfl ?_);refine zA rfl (N:=3) rfl (cs:= #[.int .i64 a2,.string a3]) (t:=135) zq26 ?_;intro g1 hg w6 hbox hb;have B4:=zz hbox;have G1:=zz (zq24 G0.1:w.heap.size≤g1);have N0:=zz (by rw [hg];exact Nat.ne_of_lt (zE (g:=g0) (o:= .cells #[.int .i64 a0,.string a1] 135 (0,0)) (zq7 B0.1)):g0≠g1);have N1:=zz (by rw [hg];exact Nat.ne_of_gt (zE (g:=g0) (o:= .cells #[.int .i64 a0,.string a1] 135 (0,0)) (zq7 B0.1)):g1≠g0);replace B0:=zz (zj (g:=g0) (o:= .cells #[.int .i64 a0,.string a1] 135 (0,0)) (zq7 B0.1) hb);replace HB:=zz (zf (zq4 G0.1) hb);clear hb hbox hg;have hnb7:=N0.1;have hnc7:=N1.1;obtain ⟨_,_,_,_⟩:=zba B0.1;obtain ⟨_,_,_,_⟩:=zba B4.1))
   exact zq162
  ·exact zq110
 ·exact zq131
def laws_eqPutS.l0:Nat→List (S135)→List (S135)→Int→Option (Bool)
 |0,_,_,_=>none
 |k+1,x0,x1,x5=>if x5<(x0.length:Int) then (if 0≤x5 then (if x5<(x1.length:Int) then ((laws_eqPut.f ((zm x0 x5).f0) ((zm x0 x5).f1) ((zm x1 x5).f0) ((zm x1 x5).f1)).bind fun t268=>(if t268=true then (laws_eqPutS.l0 k x0 x1 (wrap64 (x5+1))) else (none))) else (none)) else (none)) else (some true)
def laws_eqPutS.f (k:Nat) (l0:List (S135)) (l1:List (S135)):Option (Bool):=if (l0.length:Int)=(l1.length:Int) then (laws_eqPutS.l0 k l0 l1 0) else (none)
theorem laws_eqPutS.mono_l:∀k,(∀y0 y1 y2,LeO (laws_eqPutS.l0 k y0 y1 y2) (laws_eqPutS.l0 (k+1) y0 y1 y2))
 |0=>fun _ _ _ r h=>by simp [laws_eqPutS.l0] at h
 |k+1=>by
  have ih0:=laws_eqPutS.mono_l k
  ·intro y0 y1 y2
   unfold laws_eqPutS.l0
   exact zq90
theorem laws_eqPutS.mono:∀a0 a1 k,LeO (laws_eqPutS.f k a0 a1) (laws_eqPutS.f (k+1) a0 a1):=by
 intro a0 a1 k
 have ih0:=laws_eqPutS.mono_l k
 unfold laws_eqPutS.f
 exact zq89
def laws_eqPutS.T6:Bool×List (List Nat×List Nat):=(true,[([],[]),([],[]),([0,1],[0,1]),([2],[2]),([],[]),([],[]),([4,5],[4,5]),([6],[6]),([3,7],[3,7]),([8],[8])])
def laws_eqPutS.B6:List Nat:=[0,0,3,7,0,0,48,112,255,511]
theorem laws_eqPutS.tab6:rtab .any (zgb Try.f71 6)=laws_eqPutS.T6:=zq8
theorem laws_eqPutS.bits6:zqa laws_eqPutS.T6.2 laws_eqPutS.B6=true:=zq8
theorem laws_eqPutS.calls (k:Nat) (A0:Option Addr) (c0:Nat) (l0:List (S135)) (A1:Option Addr) (c1:Nat) (l1:List (S135)) (r:Bool) (w:World) (hr0:Kd.C k135 w A0 l0.length l0) (hc0:l0.length≤c0) (hr1:Kd.C k135 w A1 l1.length l1) (hc1:l1.length≤c1) (h:laws_eqPutS.f k l0 l1=some r):
  Calls Try.prog 71 #[.slice A0 l0.length c0,.slice A1 l1.length c1] w fun e w'=>e= .returned (.bool r)∧Below w.heap.size w w':=by
 have hu135:=Try.underlying135
 have HR0:=zz hr0
 clear hr0 hc0
 have HR1:=zz hr1
 clear hr1 hc1
 have HB:=zz (z0a w.heap.size w)
 have H:(if (l0.length:Int)=(l1.length:Int) then (laws_eqPutS.l0 k l0 l1 0) else (none))=some r:=h
 clear h
 by_cases c3:(l0.length:Int)=(l1.length:Int)
 ·rw [if_pos c3] at H
  have c3b0:((l0.length:Int)==(l1.length:Int))=true:=beq_iff_eq.mpr c3
  have c3b1:((l0.length:Int) !=(l1.length:Int))=false:=bne_eq_false_iff_eq.mpr c3
  have c3b2:(l0.length==l1.length)=true:=zq71
  clear c3
  have H':=zz H
  clear H
  go_enter Try.func71,Try.ntmps71
  go_wp2
  go_loopg [5] k (fun kq v5 w'=>∃(x0:Int),v5= .int .i64 x0∧Z0 (laws_eqPutS.l0 kq l0 l1 x0=some r)∧Z0 (kq≤k)∧Z0 (Below w.heap.size w w'))
  case atStart=>exact ⟨(0),zq10,H',⟨z2a _⟩,⟨zq0⟩⟩
  case round=>
   clear H'
   try clear c1
   try clear c3
   try clear c3b0
   try clear c3b1
   try clear c3b2
   obtain ⟨x0,rfl,HA,HK1,HB⟩:=hrel
   cases gk with
   |zero=>exact absurd HA.1 (by simp [laws_eqPutS.l0])
   |succ k1=>
    have H:=HA.1
    clear HA
    simp only [laws_eqPutS.l0] at H
    by_cases c4:x0<(l0.length:Int)
    ·rw [if_pos c4] at H
     have c4b0:=z6 c4
     clear c4
     by_cases c5:0≤x0
     ·rw [if_pos c5] at H
      have c5b0:=z6 c5
      clear c5
      by_cases c6:x0<(l1.length:Int)
      ·rw [if_pos c6] at H
       have c6b0:=z6 c6
       clear c6
       replace H:=z1a H
       obtain ⟨t0,A2,H⟩:=H
       replace H:(if t0=true then (laws_eqPutS.l0 k1 l0 l1 (wrap64 (x0+1))) else (none))=some r:=H
       have A7:=zz A2
       clear A2
       by_cases c8:t0=true
       ·subst c8
        rw [if_pos rfl] at H
        have H':=zz H
        clear H
        try go_wp2
        have n0:=zz (zx HB.1)
        clear HB
        have HB:=n0
        clear n0
        have p0:0≤(x0:Int):=z8 zq11
        have q0:x0<(l0.length:Int):=z8 zq11
        obtain ⟨b0,e0,k0,k2⟩:=zka HR0.1 x0 p0 q0
        have h0:=k2
        have h2:=k0
        cases e0
        replace k0:=(HB.1.cell (z9 w _ k0)).trans k0
        replace k2:=(HB.1.cell (z9 w _ k2)).trans k2
        replace p0:=eq_true p0
        replace q0:=eq_true q0
        have p1:0≤(x0:Int):=z8 zq11
        have q1:x0<(l1.length:Int):=z8 zq11
        obtain ⟨b1,e1,k3,k4⟩:=zka HR1.1 x0 p1 q1
        have h3:=k4
        have h4:=k3
        cases e1
        replace k3:=(HB.1.cell (z9 w _ k3)).trans k3
        replace k4:=(HB.1.cell (z9 w _ k4)).trans k4
        replace p1:=eq_true p1
        replace q1:=eq_true q1
        refine zGa (n:=10) (S:=fun w'=>w'.cell? (b0.add ((x0).toNat*2))=some (.int .i64 ((zm l0 x0).f0))∧w'.cell? ⟨(b0.add ((x0).toNat*2)).block,(b0.add ((x0).toNat*2)).off+1,none⟩=some (.string ((zm l0 x0).f1))∧w'.cell? (b1.add ((x0).toNat*2))=some (.int .i64 ((zm l1 x0).f0))∧w'.cell? ⟨(b1.add ((x0).toNat*2)).block,(b1.add ((x0).toNat*2)).off+1,none⟩=some (.string ((zm l1 x0).f1))) (ds:=[]) #[false,false,false,false,false,false,false,false,false,false] zq8 rfl rfl ⟨((HB.1.cell (z9 w _ h2)).trans h2),((HB.1.cell (z9 w _ h0)).trans h0),((HB.1.cell (z9 w _ h4)).trans h4),((HB.1.cell (z9 w _ h3)).trans h3)⟩ (fun hHeld=> ?_);refine zW laws_eqPutS.tab6 laws_eqPutS.bits6 (fun HT_ HW_=> ?_)
        generalize wr.drew=w9 at HB k0 k2 k3 k4 hHeld ⊢
        refine zr (i:=0) (N:=some 17) (v:= ?_) (a':= ?_) #[true,false,false,false,false,false,false,false,false,false] rfl rfl (zk HT_.1 zq8) (fun _ _ _ h=>h) (Or.inl ⟨zq19,zq5⟩) zq1 ?_
        refine zr (i:=1) (N:=some 18) (v:= ?_) (a':= ?_) #[true,true,false,false,false,false,false,false,false,false] rfl rfl (zk HT_.1 zq8) (fun _ _ _ h=>h) (Or.inl ⟨zq19,zq5⟩) zq1 ?_
        refine zr (i:=2) (N:=some 19) (v:= ?_) (a':= ?_) #[true,true,true,false,false,false,false,false,false,false] rfl rfl (zk HT_.1 zq8) (fun _ _ _ h=>h) (Or.inl ⟨zq19,zq5⟩) zq1 ?_
        refine zr (i:=4) (N:=some 21) (v:= ?_) (a':= ?_) #[true,true,true,false,true,false,false,false,false,false] rfl rfl (zk HT_.1 zq8) (fun _ _ _ h=>h) (Or.inl ⟨zq19,zq5⟩) zq1 ?_
        refine zr (i:=5) (N:=some 22) (v:= ?_) (a':= ?_) #[true,true,true,false,true,true,false,false,false,false] rfl rfl (zk HT_.1 zq8) (fun _ _ _ h=>h) (Or.inl ⟨zq19,zq5⟩) zq1 ?_
        refine zr (i:=6) (N:=some 23) (v:= ?_) (a':= ?_) #[true,true,true,false,true,true,true,false,false,false] rfl rfl (zk HT_.1 zq8) (fun _ _ _ h=>h) (Or.inl ⟨zq19,zq5⟩) zq1 ?_
        refine take_ (i:=3) (N:=some 20) (v:= ?_) (a':= ?_) #[true,true,true,true,true,true,true,false,false,false] rfl rfl (zFa HT_.1 HW_.1 zq8) (fun _ _ _ h=>h) (Or.inl ⟨zq19,zq35⟩) hHeld zq1 ?_
        refine take_ (i:=7) (N:=some 24) (v:= ?_) (a':= ?_) #[true,true,true,true,true,true,true,true,false,false] rfl rfl (zFa HT_.1 HW_.1 zq8) (fun _ _ _ h=>h) (Or.inl ⟨zq19,zq35⟩) hHeld zq1 ?_
        refine one_ (i:=8) (N:=some 25) #[true,true,true,true,true,true,true,true,true,false] rfl rfl (zpa HT_.1 zq8) zq32 (fun K hK=> ?_)
        refine zjb Try.func129 zq8 rfl #[.agg #[.int .i64 ((zm l0 x0).f0),.string ((zm l0 x0).f1)],.agg #[.int .i64 ((zm l1 x0).f0),.string ((zm l1 x0).f1)]] zq19 rfl rfl zq6 ?_
        with_reducible refine (laws_eqPut.calls ((zm l0 x0).f0) ((zm l0 x0).f1) ((zm l1 x0).f0) ((zm l1 x0).f1) true _ A7.1).mono ?_
        rintro e w10 ⟨rfl,hb⟩
        exact zq126
       ·replace c8:=Bool.eq_false_iff.mpr c8
        subst c8
        exact zq112
      ·exact zq145
     ·exact zq105
    ·exact zq114
 ·exact zq131
end Go.Proofs.Ytonhdiemjgdcnaa.PFnExactGivePage
