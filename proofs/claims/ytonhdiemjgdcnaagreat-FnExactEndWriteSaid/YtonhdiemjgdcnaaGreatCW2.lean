import Derived.Test.YtonhdiemjgdcnaaGreatCW1
import Derived.Test.YtonhdiemjgdcnaaGreatProg
import Derived.Laws.Cover1
set_option maxHeartbeats 64000000
set_option maxRecDepth 100000
set_option linter.unusedVariables false
set_option linter.unusedSimpArgs false
namespace Go.Proofs
theorem zq0{P:Prop}(h:P:=by repeat (first|(with_reducible first|exact HB.1|apply zo|apply zO|apply zR)|exact HB.1)):P:=h
theorem zq1{P Q0:Prop}(q0:Q0)(h:Q0→P:=by intro q0;(with_reducible repeat (first|refine zk ?_ _|refine zl ?_|refine zh ?_ _));exact q0):P:=h q0
theorem zq4{P Q0:Prop}(q0:Q0)(h:Q0→P:=by intro q0;repeat (first|(with_reducible first|exact HB.1|apply zo|apply zO|apply zR|refine zZ ?_ q0)|exact HB.1)):P:=h q0
theorem zq5{P Q0 Q1:Prop}(q0:Q0)(q1:Q1)(h:Q0→Q1→P:=by intro q0 q1;repeat (first|(with_reducible first|exact HB.1|apply zo|apply zO|apply zR|refine zZ ?_ q0|refine zZ ?_ q1)|exact HB.1)):P:=h q0 q1
theorem zq8{P:Prop}(h:P:=by (try simp only [List.map_toArray,List.map_cons,List.map_nil]);first|done|rfl|(simp only [List.length_drop,List.length_take];rfl)):P:=h
theorem zq10{P:Prop}(h:P:=by simp only [Act.put,List.setIfInBounds_toArray,List.set_cons_zero,List.set_cons_succ,zKa,i32_w];rfl):P:=h
theorem zq12{P:Prop}(h:P:=by intro w';go_simp;with_reducible rfl):P:=h
theorem zq13{P:Prop}(h:P:=by kernel_rfl):P:=h
theorem zq15{P:Prop}(h:P:=by rw [hg];exact (zD (by repeat (first|(with_reducible first|exact HB.1|apply zo|apply zO|apply zR)|exact HB.1)))):P:=h
theorem zq16{P:Prop}(h:P:=by first|rfl|(simp [errW_none,errW_some]<;>rfl)|(simp [*,errW_none,errW_some]<;>rfl)):P:=h
theorem zq17{P Q0:Prop}(q0:Q0)(h:Q0→P:=by intro q0;(with_reducible repeat (first|apply Kd.R_alloc|apply Kd.R_drewN|apply Kd.R_drew));exact q0):P:=h q0
theorem zq18{P:Prop}(h:P:=by first|rfl|(simp;done)|(simp [*];done)):P:=h
theorem zq20{P:Prop}(h:P:=by first|(rw [i0];with_reducible exact H)|(have H2_:=(Option.bind_some _ _).symm.trans H;rw [i0];with_reducible exact H2_)|(have H2_:=(Option.bind_some _ _).symm.trans H;with_reducible exact H2_)|with_reducible exact H|(rw [i0];exact H)|exact H):P:=h
theorem zq21{P:Prop}(h:P:=by with_reducible assumption):P:=h
theorem zq22{P:Prop}(h:P:=by rfl):P:=h
theorem zq25{P Q0:Prop}(q0:Q0)(h:Q0→P:=by intro q0;rw [hg];exact (zD (by repeat (first|(with_reducible first|exact HB.1|apply zo|apply zO|apply zR|refine zZ ?_ q0)|exact HB.1)))):P:=h q0
theorem zq27{P:Prop}(h:P:=by first|(go_simp;done)|(go_simp;rfl)):P:=h
theorem zq28{P Q0:Prop}(q0:Q0)(h:Q0→P:=by intro q0;rw [hg];exact z8a (zP (g:=g0) (o:= .cells #[.slice A0 l2.length c0,.slice A1 l3.length c1] 37 (0,0)) (by (with_reducible repeat (first|refine zk ?_ _|refine zl ?_|refine zh ?_ _));exact q0))):P:=h q0
theorem zq29{P Q0:Prop}(q0:Q0)(h:Q0→P:=by intro q0;rw [hg];exact z7a (zP (g:=g0) (o:= .cells #[.slice A0 l2.length c0,.slice A1 l3.length c1] 37 (0,0)) (by (with_reducible repeat (first|refine zk ?_ _|refine zl ?_|refine zh ?_ _));exact q0))):P:=h q0
theorem zq31{P:Prop}(h:P:=by decide):P:=h
theorem zq33{P:Prop}(h:P:=by repeat (first|exact Drawn0.refl _|apply Drawn0.step)):P:=h
theorem zq34{P:Prop}(h:P:=by first|(rw [i1];with_reducible exact H)|(have H2_:=(Option.bind_some _ _).symm.trans H;rw [i1];with_reducible exact H2_)|(have H2_:=(Option.bind_some _ _).symm.trans H;with_reducible exact H2_)|with_reducible exact H|(rw [i1];exact H)|exact H):P:=h
theorem zq51{P Q0:Prop}(q0:Q0)(h:Q0→P:=by intro q0;have:=q0;omega):P:=h q0
theorem zq52{P:Prop}(h:P:=by first|(rw [i2];with_reducible exact H)|(have H2_:=(Option.bind_some _ _).symm.trans H;rw [i2];with_reducible exact H2_)|(have H2_:=(Option.bind_some _ _).symm.trans H;with_reducible exact H2_)|with_reducible exact H|(rw [i2];exact H)|exact H):P:=h
theorem zq70{P Q0 Q1:Prop}(q0:Q0)(q1:Q1)(h:Q0→Q1→P:=by intro q0 q1;(with_reducible repeat (first|apply Kd.R_alloc|apply Kd.R_drewN|apply Kd.R_drew));exact Kd.R_mono (Kd.R_far (p:=⟨g1,1,none⟩) (Kd.R_far (p:=⟨g1,0,none⟩) (Kd.R_types q0 q1 (by decide)) (fun _ hk=>hk.2) (.slice A4 y2.length c12)) (fun _ hk=>hk.2) (.slice A2 y3.length c11)) (fun _ hk=>trivial)):P:=h q0 q1
theorem zq85{P:Prop}(h:P:=by rintro w' ⟨s0,s1⟩;go_simp;with_reducible rfl):P:=h
theorem zq111{P:Prop}(h:P:=by simp only [putAll,Act.put,List.setIfInBounds_toArray,List.set_cons_zero,List.set_cons_succ]):P:=h
theorem zq217{P:Prop}(h:P:=by
 exact zUb zq111 (hCont (v2,v3,v4) _ ⟨hHeld,(zq17 O1.1),(zq17 O2.1),(zq1 B0.1),(zq1 B2.1),(zq5 G0.1 G1.1)⟩)):P:=h
theorem zq143{P:Prop}(h:P:=by
 refine one_ (i:=3) (N:=some 6) #[true,true,true,true,true,true,true,false,false,false] rfl rfl (zVa HT_.1 zq13) zq31 (fun K hK=> ?_)
 refine Kd.R_append_rows_step Kd.string (w0:=w) w.heap.size zq22 (.tmp 3) (.tmp 5) 25 9 (.string ⟨#[]⟩) 16 rfl Tryz.underlying25 info9 rfl zq31 zq9 v2 y0 l2 _ _ _ (fun _=>True) (fun _=>False) rfl rfl ?aO ?aR (fun _ _ h=>h) (fun _ h=>h.elim) ?aF ?aB ?aS ?aL ?_
 (case aR=>repeat (first|exact (Kd.C_below R0.1 HB.1)|(with_reducible refine Kd.C_alloc ?_ _)|(with_reducible refine Kd.C_drewN ?_ _)|(with_reducible refine Kd.C_drew ?_)))
 (case aB=>exact (zq5 G0.1 G1.1))
 (case aF=>exact (fun _ _=>trivial))
 (case aO=>exact (zq17 O0.1))
 (case aS=>exact (zD (zq5 G0.1 G1.1)))
 (case aL=>have:=LMc2.1;omega)
 intro v3 w8 ho hb hg hat
 rw [←Y1.1] at ho
 have n0:=zz (zK (g:=g0) (o:= .cells #[.slice A0 l2.length c0,.slice A1 l3.length c1] 37 (0,0)) (zq1 B0.1) hg (Kd.R_ne O0.1 B0.1 zq31))
 have n1:=zz (zK (g:=g1) (o:= .cells #[.slice none 0 0,.slice none 0 0] 37 (0,0)) (zq1 B2.1) hg (Kd.R_ne O0.1 B2.1 zq31))
 have n2:=zz (Kd.R_over' (zq17 O2.1) (Kd.R_typed (zq17 O0.1)) zq31 hg)
 have n3:=zz (hb)
 have n4:=zz (ho)
 clear B0
 clear B2
 clear O2
 clear HB
 clear O0
 have B0:=n0
 have B2:=n1
 have O2:=n2
 have HB:=n3
 have O1:=n4
 clear n0 n1 n2 n3 n4
 clear ho hb hg hat
 refine hK.out _ _ ⟨(zj B0.1 0).trans rfl,(zj B0.1 1).trans rfl⟩ (fun hHeld=> ?_)
 clear hK K
 refine zUb (a':= ?_) ?_ ?_
 rotate_left
 ·show Act.put _ (some 6) _=_
  simp only [Act.put,List.setIfInBounds_toArray,List.set_cons_zero,List.set_cons_succ,zKa,i32_w]
  rfl
 exact zq217):P:=h
theorem zq144{P:Prop}(h:P:=by
 repeat' first
   |(with_reducible exact ih0 _ _ _)
   |(with_reducible exact LeO.refl _)
   |(with_reducible exact LeO.none _)
   |(with_reducible refine LeO.ite ?_ ?_)
   |(with_reducible refine LeO.bind ?_ (fun _=> ?_))
   |exact ih0 _ _ _):P:=h
theorem zq145{P:Prop}(h:P:=by
 repeat' first
 |(with_reducible exact ih0 _ _ _)
 |(with_reducible exact LeO.refl _)
 |(with_reducible exact LeO.none _)
 |(with_reducible refine LeO.ite ?_ ?_)
 |(with_reducible refine LeO.bind ?_ (fun _=> ?_))
 |exact ih0 _ _ _):P:=h
theorem zq146{P:Prop}(h:P:=by
 simp only [Act.put,List.setIfInBounds_toArray,List.set_cons_zero,List.set_cons_succ,zKa,i32_w]
 rfl):P:=h
theorem zq152{P:Prop}(h:P:=by
 rw [if_neg c4] at H
 have c4b0:=z7 c4
 clear c4
 obtain rfl:=z6a H
 go_wp2
 go_ret
 exact ⟨zq16,zq0⟩):P:=h
theorem zq153{P:Prop}(h:P:=by
 go_ret
 exact ⟨zq16,zq4 G0.1⟩):P:=h
theorem zq155{P:Prop}(h:P:=by
 rw [if_neg c5] at H
 exact absurd H zq38):P:=h
theorem zq166{P:Prop}(h:P:=by
 rw [if_neg c3] at H
 exact absurd H zq38):P:=h
theorem zq167{P:Prop}(h:P:=by
 go_wp2
 go_ret
 exact ⟨zq18,zq33⟩):P:=h
theorem zq169{P:Prop}(h:P:=by
 go_wp2
 go_ret
 exact ⟨zq16,zq0⟩):P:=h
theorem zq186{P:Prop}(h:P:=by
 go_roundg k1
 case measure=>have:=HK1.1;omega
 case rel=>exact ⟨(t0),(wrap64 (x1+1)),zq18,zq18,H',⟨zq51 HK1.1⟩,⟨zq0⟩⟩):P:=h
theorem zq211{P:Prop}(h:P:=by
 rw [if_neg c2] at H
 exact absurd H zq38):P:=h
end Go.Proofs
namespace Go.Proofs.YtonhdiemjgdcnaaGreat.PFnExactGivePage
open Go.RowKit Go.Proofs.YtonhdiemjgdcnaaGreatW.PrintWords Go.Proofs.YtonhdiemjgdcnaaGreatW.PrintLast Go.Proofs.YtonhdiemjgdcnaaGreatW.PrintMore
attribute [local go_sem] zma zla zwa zxa zba zca zoa zna
theorem zga {P:Program} {α:Type} {d:Kd α} {e base:Nat} {w:World} {ok:Nat→Prop} {v:Value} {xs:List α} (h:Kd.R d e w base ok v xs):∀(a:Addr) (m:Mode) (W:World),(store a v m).run P W=stored P W a v m:=by
 obtain ⟨A,c,rfl⟩:=Kd.R_slice h
 intro a m W
 exact run_store P W a _ m rfl
def errW:Option Int→Value
 |none=> .nilIface
 |some c=> .iface 0 (.int .i64 c)
theorem errW_none:errW none= .nilIface:=rfl
theorem errW_some (c:Int):errW (some c)= .iface 0 (.int .i64 c):=rfl
theorem info3:(Tryz.prog.info? 3).map (fun i=>(i.zero,i.size,i.bytes))=some (some (.int .i64 0),1,8):=zq13
theorem info5:(Tryz.prog.info? 5).map (fun i=>(i.zero,i.size,i.bytes))=some (some (.int .u8 0),1,1):=zq13
theorem info9:(Tryz.prog.info? 9).map (fun i=>(i.zero,i.size,i.bytes))=some (some (.string ⟨#[]⟩),1,16):=zq13
theorem info110:(Tryz.prog.info? 110).map (fun i=>(i.zero,i.size,i.bytes))=some (some (.agg #[(.int .i64 0),(.string ⟨#[]⟩)]),2,24):=zq13
structure S156 where
 f0:Int
 f1:ByteArray
def z156:S156:=⟨(0:Int),(⟨#[]⟩:ByteArray)⟩
def k156:Kd S156:=Kd.iso (Kd.pair (Kd.int .i64) Kd.string) (fun x:S156=>(x.f0,x.f1))
theorem k156_open {w:World} {x:S156} {cs:List Value} (h:k156.K w x cs):cs=[.int .i64 x.f0,.string x.f1]:=by
 obtain ⟨_,_,rfl,rfl,rfl⟩:=h
 exact rfl
def zHa (xs:List S156) (i:Int):S156:=xs.getD i.toNat z156
theorem at_T156 {w:World} {A:Option Addr} {n:Nat} {xs:List S156} (h:Kd.C k156 w A n xs) (i:Int) (h0:0≤i) (h1:i<n):∃ad,A=some ad∧w.cell? (ad.add (i.toNat*2))=some (.int .i64 (zHa xs i).f0)∧w.cell? ⟨(ad.add (i.toNat*2)).block,(ad.add (i.toNat*2)).off+1,none⟩=some (.string (zHa xs i).f1):=by
 obtain ⟨ad,c,e,_,hK,hc0⟩:=Kd.C_get h z156 i h0 h1
 have hc:∀j u,c[j]?=some u→w.cell? (ad.add (i.toNat*2+j))=some u:=hc0
 obtain rfl:=k156_open hK
 exact ⟨ad,e,hc 0 _ rfl,by rw [←zmb _ _ 1 zq9];exact hc 1 _ rfl⟩
structure S110 where
 f0:Int
 f1:ByteArray
def z110:S110:=⟨(0:Int),(⟨#[]⟩:ByteArray)⟩
def k110:Kd S110:=Kd.iso (Kd.pair (Kd.int .i64) Kd.string) (fun x:S110=>(x.f0,x.f1))
theorem k110_open {w:World} {x:S110} {cs:List Value} (h:k110.K w x cs):cs=[.int .i64 x.f0,.string x.f1]:=by
 obtain ⟨_,_,rfl,rfl,rfl⟩:=h
 exact rfl
theorem zDb {w:World} {base:Nat} {ok:Nat→Prop} {x:S110} {cs:List Value} (h:k110.M w base ok x cs):cs=[.int .i64 x.f0,.string x.f1]:=by
 obtain ⟨_,_,rfl,rfl,rfl⟩:=h
 exact rfl
theorem k110_mkM (w:World) (base:Nat) (ok:Nat→Prop) (x:S110):k110.M w base ok x [.int .i64 x.f0,.string x.f1]:=⟨[.int .i64 x.f0],[.string x.f1],rfl,rfl,rfl⟩
def zv (xs:List S110) (i:Int):S110:=xs.getD i.toNat z110
theorem zIa {w:World} {A:Option Addr} {n:Nat} {xs:List S110} (h:Kd.C k110 w A n xs) (i:Int) (h0:0≤i) (h1:i<n):∃ad,A=some ad∧w.cell? (ad.add (i.toNat*2))=some (.int .i64 (zv xs i).f0)∧w.cell? ⟨(ad.add (i.toNat*2)).block,(ad.add (i.toNat*2)).off+1,none⟩=some (.string (zv xs i).f1):=by
 obtain ⟨ad,c,e,_,hK,hc0⟩:=Kd.C_get h z110 i h0 h1
 have hc:∀j u,c[j]?=some u→w.cell? (ad.add (i.toNat*2+j))=some u:=hc0
 obtain rfl:=k110_open hK
 exact ⟨ad,e,hc 0 _ rfl,by rw [←zmb _ _ 1 zq9];exact hc 1 _ rfl⟩
def laws_szStringS.l0:Nat→List ByteArray→Int→Int→Option (Int)
 |0,_,_,_=>none
 |k+1,x0,x1,x5=>if x5<(x0.length:Int) then (if 0≤x5 then (if (wrap64 (x1-((zcc ByteArray.empty x0 x5).size:Int)))<0 then (some (-1)) else (laws_szStringS.l0 k x0 (wrap64 (x1-((zcc ByteArray.empty x0 x5).size:Int))) (wrap64 (x5+1)))) else (none)) else (some x1)
def laws_szStringS.f (k:Nat) (l0:List ByteArray) (a1:Int):Option (Int):=if (wrap64 (a1-(l0.length:Int)))<0 then (some (-1)) else (laws_szStringS.l0 k l0 (wrap64 (a1-(l0.length:Int))) 0)
theorem laws_szStringS.mono_l:∀k,(∀y0 y1 y2,LeO (laws_szStringS.l0 k y0 y1 y2) (laws_szStringS.l0 (k+1) y0 y1 y2))
 |0=>fun _ _ _ r h=>by simp [laws_szStringS.l0] at h
 |k+1=>by
  have ih0:=laws_szStringS.mono_l k
  ·intro y0 y1 y2
   unfold laws_szStringS.l0
   exact zq145
theorem laws_szStringS.mono:∀a0 a1 k,LeO (laws_szStringS.f k a0 a1) (laws_szStringS.f (k+1) a0 a1):=by
 intro a0 a1 k
 have ih0:=laws_szStringS.mono_l k
 unfold laws_szStringS.f
 exact zq144
theorem laws_szStringS.calls (k:Nat) (A0:Option Addr) (c0:Nat) (l0:List ByteArray) (a1:Int) (r:Int) (w:World) (hr0:Kd.C Kd.string w A0 l0.length l0) (hc0:l0.length≤c0) (h:laws_szStringS.f k l0 a1=some r):
  Calls Tryz.prog 104 #[.slice A0 l0.length c0,.int .i64 a1] w fun e w'=>e= .returned (.int .i64 r)∧Drawn0 w w':=by
 have HR0:=zz hr0
 clear hr0 hc0
 have H:(if (wrap64 (a1-(l0.length:Int)))<0 then (some (-1)) else (laws_szStringS.l0 k l0 (wrap64 (a1-(l0.length:Int))) 0))=some r:=h
 clear h
 by_cases c3:(wrap64 (a1-(l0.length:Int)))<0
 ·rw [if_pos c3] at H
  have c3b0:=z6 c3
  clear c3
  obtain rfl:=z6a H
  go_enter Tryz.func104,Tryz.ntmps104
  exact zq167
 ·rw [if_neg c3] at H
  have c3b0:=z7 c3
  clear c3
  have H':=zz H
  clear H
  go_enter Tryz.func104,Tryz.ntmps104
  go_wp2
  go_loopg [1,5] k (fun kq v1 v5 w'=>∃(x0:Int) (x1:Int),v1= .int .i64 x0∧v5= .int .i64 x1∧Z0 (laws_szStringS.l0 kq l0 x0 x1=some r)∧Z0 (kq≤k)∧Drawn0 w w')
  case atStart=>exact ⟨(wrap64 (a1-(l0.length:Int))),(0),zq18,zq18,H',⟨z3a _⟩,zq33⟩
  case round=>
   clear H'
   try clear c3
   try clear c3b0
   obtain ⟨x0,x1,rfl,rfl,HA,HK1,⟨m1,rfl⟩⟩:=hrel
   cases gk with
   |zero=>exact absurd HA.1 (by simp [laws_szStringS.l0])
   |succ k1=>
    have H:=HA.1
    clear HA
    simp only [laws_szStringS.l0] at H
    by_cases c4:x1<(l0.length:Int)
    ·rw [if_pos c4] at H
     have c4b0:=z6 c4
     clear c4
     by_cases c5:0≤x1
     ·rw [if_pos c5] at H
      have c5b0:=z6 c5
      clear c5
      by_cases c6:(wrap64 (x0-((zcc ByteArray.empty l0 x1).size:Int)))<0
      ·rw [if_pos c6] at H
       have c6b0:=z6 c6
       clear c6
       obtain rfl:=z6a H
       have p0:0≤(x1:Int):=z8 zq21
       have q0:x1<(l0.length:Int):=z8 zq21
       obtain ⟨b0,e0,k0⟩:=Kd.at_string HR0.1 x1 p0 q0
       cases e0
       replace p0:=eq_true p0
       replace q0:=eq_true q0
       exact zq167
      ·rw [if_neg c6] at H
       have c6b0:=z7 c6
       clear c6
       have H':=zz H
       clear H
       have p0:0≤(x1:Int):=z8 zq21
       have q0:x1<(l0.length:Int):=z8 zq21
       obtain ⟨b0,e0,k0⟩:=Kd.at_string HR0.1 x1 p0 q0
       cases e0
       replace p0:=eq_true p0
       replace q0:=eq_true q0
       go_wp2
       go_roundg k1
       case measure=>have:=HK1.1;omega
       case rel=>exact ⟨(wrap64 (x0-((zcc ByteArray.empty l0 x1).size:Int))),(wrap64 (x1+1)),zq18,zq18,H',⟨zq51 HK1.1⟩,zq33⟩
     ·exact zq155
    ·rw [if_neg c4] at H
     have c4b0:=z7 c4
     clear c4
     obtain rfl:=z6a H
     exact zq167
def laws_szPut.f (a0_0:Int) (a0_1:ByteArray) (a1:Int):Option (Int):=if (wrap64 (a1-(a0_1.size:Int)))<0 then (some (-1)) else (some (wrap64 (a1-(a0_1.size:Int))))
theorem laws_szPut.calls (a0:Int) (a2:ByteArray) (a1:Int) (r:Int) (w:World) (h:laws_szPut.f a0 a2 a1=some r):
  Calls Tryz.prog 130 #[.agg #[.int .i64 a0,.string a2],.int .i64 a1] w fun e w'=>e= .returned (.int .i64 r)∧Below w.heap.size w w':=by
 have hu140:=Tryz.underlying156
 have HB:=zz (z1a w.heap.size w)
 have H:(if (wrap64 (a1-(a2.size:Int)))<0 then (some (-1)) else (some (wrap64 (a1-(a2.size:Int)))))=some r:=h
 clear h
 by_cases c3:(wrap64 (a1-(a2.size:Int)))<0
 ·rw [if_pos c3] at H
  have c3b0:=z6 c3
  clear c3
  obtain rfl:=z6a H
  go_enter Tryz.func130,Tryz.ntmps130
  go_wp2_with (first|((with_reducible refine zd (N:=2) rfl ?_);refine zx rfl (N:=2) rfl (cs:= #[.int .i64 a0,.string a2]) (t:=156) zq27 ?_;intro g0 hg w4 hbox hb;have B0:=zz hbox;have G0:=zz (zq15:w.heap.size≤g0);replace HB:=zz (ze zq0 hb);clear hb hbox hg;obtain ⟨_,_,_,_⟩:=zV B0.1))
  exact zq153
 ·rw [if_neg c3] at H
  have c3b0:=z7 c3
  clear c3
  obtain rfl:=z6a H
  go_enter Tryz.func130,Tryz.ntmps130
  go_wp2_with (first|((with_reducible refine zd (N:=2) rfl ?_);refine zx rfl (N:=2) rfl (cs:= #[.int .i64 a0,.string a2]) (t:=156) zq27 ?_;intro g0 hg w6 hbox hb;have B0:=zz hbox;have G0:=zz (zq15:w.heap.size≤g0);replace HB:=zz (ze zq0 hb);clear hb hbox hg;obtain ⟨_,_,_,_⟩:=zV B0.1))
  exact zq153
def laws_szPutS.l0:Nat→List (S156)→Int→Int→Option (Int)
 |0,_,_,_=>none
 |k+1,x0,x1,x5=>if x5<(x0.length:Int) then (if 0≤x5 then ((laws_szPut.f ((zHa x0 x5).f0) ((zHa x0 x5).f1) x1).bind fun t104=>(if t104<0 then (some (-1)) else (laws_szPutS.l0 k x0 t104 (wrap64 (x5+1))))) else (none)) else (some x1)
def laws_szPutS.f (k:Nat) (l0:List (S156)) (a1:Int):Option (Int):=if (wrap64 (a1-(l0.length:Int)))<0 then (some (-1)) else (laws_szPutS.l0 k l0 (wrap64 (a1-(l0.length:Int))) 0)
theorem laws_szPutS.mono_l:∀k,(∀y0 y1 y2,LeO (laws_szPutS.l0 k y0 y1 y2) (laws_szPutS.l0 (k+1) y0 y1 y2))
 |0=>fun _ _ _ r h=>by simp [laws_szPutS.l0] at h
 |k+1=>by
  have ih0:=laws_szPutS.mono_l k
  ·intro y0 y1 y2
   unfold laws_szPutS.l0
   exact zq145
theorem laws_szPutS.mono:∀a0 a1 k,LeO (laws_szPutS.f k a0 a1) (laws_szPutS.f (k+1) a0 a1):=by
 intro a0 a1 k
 have ih0:=laws_szPutS.mono_l k
 unfold laws_szPutS.f
 exact zq144
theorem laws_szPutS.calls (k:Nat) (A0:Option Addr) (c0:Nat) (l0:List (S156)) (a1:Int) (r:Int) (w:World) (hr0:Kd.C k156 w A0 l0.length l0) (hc0:l0.length≤c0) (h:laws_szPutS.f k l0 a1=some r):
  Calls Tryz.prog 105 #[.slice A0 l0.length c0,.int .i64 a1] w fun e w'=>e= .returned (.int .i64 r)∧Below w.heap.size w w':=by
 have hu140:=Tryz.underlying156
 have HR0:=zz hr0
 clear hr0 hc0
 have HB:=zz (z1a w.heap.size w)
 have H:(if (wrap64 (a1-(l0.length:Int)))<0 then (some (-1)) else (laws_szPutS.l0 k l0 (wrap64 (a1-(l0.length:Int))) 0))=some r:=h
 clear h
 by_cases c3:(wrap64 (a1-(l0.length:Int)))<0
 ·rw [if_pos c3] at H
  have c3b0:=z6 c3
  clear c3
  obtain rfl:=z6a H
  go_enter Tryz.func105,Tryz.ntmps105
  exact zq169
 ·rw [if_neg c3] at H
  have c3b0:=z7 c3
  clear c3
  have H':=zz H
  clear H
  go_enter Tryz.func105,Tryz.ntmps105
  go_wp2
  go_loopg [1,5] k (fun kq v1 v5 w'=>∃(x0:Int) (x1:Int),v1= .int .i64 x0∧v5= .int .i64 x1∧Z0 (laws_szPutS.l0 kq l0 x0 x1=some r)∧Z0 (kq≤k)∧Z0 (Below w.heap.size w w'))
  case atStart=>exact ⟨(wrap64 (a1-(l0.length:Int))),(0),zq18,zq18,H',⟨z3a _⟩,⟨zq0⟩⟩
  case round=>
   clear H'
   try clear c3
   try clear c3b0
   obtain ⟨x0,x1,rfl,rfl,HA,HK1,HB⟩:=hrel
   cases gk with
   |zero=>exact absurd HA.1 (by simp [laws_szPutS.l0])
   |succ k1=>
    have H:=HA.1
    clear HA
    simp only [laws_szPutS.l0] at H
    by_cases c4:x1<(l0.length:Int)
    ·rw [if_pos c4] at H
     have c4b0:=z6 c4
     clear c4
     by_cases c5:0≤x1
     ·rw [if_pos c5] at H
      have c5b0:=z6 c5
      clear c5
      replace H:=z2a H
      obtain ⟨t0,A1,H⟩:=H
      replace H:(if t0<0 then (some (-1)) else (laws_szPutS.l0 k1 l0 t0 (wrap64 (x1+1))))=some r:=H
      have A6:=zz A1
      clear A1
      by_cases c7:t0<0
      ·rw [if_pos c7] at H
       have c7b0:=z6 c7
       clear c7
       obtain rfl:=z6a H
       have p0:0≤(x1:Int):=z8 zq21
       have q0:x1<(l0.length:Int):=z8 zq21
       obtain ⟨b0,e0,k0,k2⟩:=at_T156 HR0.1 x1 p0 q0
       cases e0
       replace k0:=(HB.1.cell (z0a w _ k0)).trans k0
       replace k2:=(HB.1.cell (z0a w _ k2)).trans k2
       replace p0:=eq_true p0
       replace q0:=eq_true q0
       go_wp2_with (first|((with_reducible refine zr (f:=130) rfl ?_);refine zN (some 23) rfl rfl Tryz.func130 zq13 rfl #[.agg #[.int .i64 ((zHa l0 x1).f0),.string ((zHa l0 x1).f1)],.int .i64 x0] rfl zq8 ?_;(with_reducible refine (laws_szPut.calls ((zHa l0 x1).f0) ((zHa l0 x1).f1) x0 t0 _ A6.1).mono ?_);rintro e w8 ⟨rfl,hb⟩;refine ⟨_,rfl,?_⟩;replace HB:=zz (ze zq0 hb);(try clear hb);(try clear hb2);(try clear hk);(try clear hi)))
       go_ret
       exact ⟨zq16,zq0⟩
      ·rw [if_neg c7] at H
       have c7b0:=z7 c7
       clear c7
       have H':=zz H
       clear H
       have p0:0≤(x1:Int):=z8 zq21
       have q0:x1<(l0.length:Int):=z8 zq21
       obtain ⟨b0,e0,k0,k2⟩:=at_T156 HR0.1 x1 p0 q0
       cases e0
       replace k0:=(HB.1.cell (z0a w _ k0)).trans k0
       replace k2:=(HB.1.cell (z0a w _ k2)).trans k2
       replace p0:=eq_true p0
       replace q0:=eq_true q0
       go_wp2_with (first|((with_reducible refine zr (f:=130) rfl ?_);refine zN (some 23) rfl rfl Tryz.func130 zq13 rfl #[.agg #[.int .i64 ((zHa l0 x1).f0),.string ((zHa l0 x1).f1)],.int .i64 x0] rfl zq8 ?_;(with_reducible refine (laws_szPut.calls ((zHa l0 x1).f0) ((zHa l0 x1).f1) x0 t0 _ A6.1).mono ?_);rintro e w9 ⟨rfl,hb⟩;refine ⟨_,rfl,?_⟩;replace HB:=zz (ze zq0 hb);(try clear hb);(try clear hb2);(try clear hk);(try clear hi)))
       exact zq186
     ·exact zq155
    ·exact zq152
def laws_szDisk.f (k:Nat) (l0_0:List ByteArray) (l0_1:List (S156)) (a1:Int):Option (Int):=(laws_szStringS.f k l0_0 a1).bind fun t106=>(if t106<0 then (some (-1)) else ((laws_szPutS.f k l0_1 t106).bind fun t107=>(if t107<0 then (some (-1)) else (some t107))))
theorem laws_szDisk.calls (k:Nat) (A0:Option Addr) (c0:Nat) (l2:List ByteArray) (A1:Option Addr) (c1:Nat) (l3:List (S156)) (a1:Int) (r:Int) (w:World) (r0:Kd.C Kd.string w A0 l2.length l2) (h0:l2.length≤c0) (r1:Kd.C k156 w A1 l3.length l3) (h2:l3.length≤c1) (h:laws_szDisk.f k l2 l3 a1=some r):
  Calls Tryz.prog 61 #[.agg #[.slice A0 l2.length c0,.slice A1 l3.length c1],.int .i64 a1] w fun e w'=>e= .returned (.int .i64 r)∧Below w.heap.size w w':=by
 have hu25:=Tryz.underlying28
 have R0:=zz r0
 have C0:=zz h0
 clear r0 h0
 have R1:=zz r1
 have C1:=zz h2
 clear r1 h2
 have HB:=zz (z1a w.heap.size w)
 have H:((laws_szStringS.f k l2 a1).bind fun t0=>(if t0<0 then (some (-1)) else ((laws_szPutS.f k l3 t0).bind fun t1=>(if t1<0 then (some (-1)) else (some t1)))))=some r:=h
 clear h
 replace H:=z2a H
 obtain ⟨t0,A2,H⟩:=H
 replace H:(if t0<0 then (some (-1)) else ((laws_szPutS.f k l3 t0).bind fun t1=>(if t1<0 then (some (-1)) else (some t1))))=some r:=H
 have A3:=zz A2
 clear A2
 by_cases c4:t0<0
 ·rw [if_pos c4] at H
  have c4b0:=z6 c4
  clear c4
  obtain rfl:=z6a H
  go_enter Tryz.func61,Tryz.ntmps61
  go_wp2_with (first|((with_reducible refine zd (N:=2) rfl ?_);refine zx rfl (N:=2) rfl (cs:= #[.slice A0 l2.length c0,.slice A1 l3.length c1]) (t:=28) zq27 ?_;intro g0 hg w5 hbox hb;have B0:=zz hbox;have G0:=zz (zq15:w.heap.size≤g0);replace HB:=zz (ze zq0 hb);clear hb hbox hg;obtain ⟨_,_,_,_⟩:=zV B0.1)|((with_reducible refine zr (f:=104) rfl ?_);refine zN (some 8) rfl rfl Tryz.func104 zq13 rfl #[.slice A0 l2.length c0,.int .i64 a1] rfl zq8 ?_;(with_reducible refine (laws_szStringS.calls k _ _ l2 a1 t0 _ ?side1 ?side2 A3.1).mono ?_);(case side1=>repeat (first|exact (Kd.C_below R0.1 HB.1)|(with_reducible refine Kd.C_alloc ?_ _)|(with_reducible refine Kd.C_drewN ?_ _)|(with_reducible refine Kd.C_drew ?_)));(case side2=>exact C0.1);rintro e w' ⟨rfl,⟨nd,rfl⟩⟩;refine ⟨_,rfl,?_⟩))
  exact zq153
 ·rw [if_neg c4] at H
  have c4b0:=z7 c4
  clear c4
  replace H:=z2a H
  obtain ⟨t1,A4,H⟩:=H
  replace H:(if t1<0 then (some (-1)) else (some t1))=some r:=H
  have A7:=zz A4
  clear A4
  by_cases c8:t1<0
  ·rw [if_pos c8] at H
   have c8b0:=z6 c8
   clear c8
   obtain rfl:=z6a H
   go_enter Tryz.func61,Tryz.ntmps61
   go_wp2_with (first|((with_reducible refine zd (N:=2) rfl ?_);refine zx rfl (N:=2) rfl (cs:= #[.slice A0 l2.length c0,.slice A1 l3.length c1]) (t:=28) zq27 ?_;intro g0 hg w9 hbox hb;have B0:=zz hbox;have G0:=zz (zq15:w.heap.size≤g0);replace HB:=zz (ze zq0 hb);clear hb hbox hg;obtain ⟨_,_,_,_⟩:=zV B0.1)|((with_reducible refine zr (f:=104) rfl ?_);refine zN (some 8) rfl rfl Tryz.func104 zq13 rfl #[.slice A0 l2.length c0,.int .i64 a1] rfl zq8 ?_;(with_reducible refine (laws_szStringS.calls k _ _ l2 a1 t0 _ ?side1 ?side2 A3.1).mono ?_);(case side1=>repeat (first|exact (Kd.C_below R0.1 HB.1)|(with_reducible refine Kd.C_alloc ?_ _)|(with_reducible refine Kd.C_drewN ?_ _)|(with_reducible refine Kd.C_drew ?_)));(case side2=>exact C0.1);rintro e w' ⟨rfl,⟨nd,rfl⟩⟩;refine ⟨_,rfl,?_⟩)|((with_reducible refine zr (f:=105) rfl ?_);refine zN (some 14) rfl rfl Tryz.func105 zq13 rfl #[.slice A1 l3.length c1,.int .i64 t0] rfl zq8 ?_;(with_reducible refine (laws_szPutS.calls k _ _ l3 t0 t1 _ ?side1 ?side2 A7.1).mono ?_);(case side1=>repeat (first|exact (Kd.C_below R1.1 (zq4 G0.1))|(with_reducible refine Kd.C_alloc ?_ _)|(with_reducible refine Kd.C_drewN ?_ _)|(with_reducible refine Kd.C_drew ?_)));(case side2=>exact C1.1);rintro e w11 ⟨rfl,hb⟩;refine ⟨_,rfl,?_⟩;replace B0:=zz (zg (g:=g0) (o:= .cells #[.slice A0 l2.length c0,.slice A1 l3.length c1] 28 (0,0)) (zq1 B0.1) hb);replace HB:=zz (ze (zq4 G0.1) hb);(try clear hb);(try clear hb2);(try clear hk);(try clear hi)))
   exact zq153
  ·rw [if_neg c8] at H
   have c8b0:=z7 c8
   clear c8
   obtain rfl:=z6a H
   go_enter Tryz.func61,Tryz.ntmps61
   go_wp2_with (first|((with_reducible refine zd (N:=2) rfl ?_);refine zx rfl (N:=2) rfl (cs:= #[.slice A0 l2.length c0,.slice A1 l3.length c1]) (t:=28) zq27 ?_;intro g0 hg w12 hbox hb;have B0:=zz hbox;have G0:=zz (zq15:w.heap.size≤g0);replace HB:=zz (ze zq0 hb);clear hb hbox hg;obtain ⟨_,_,_,_⟩:=zV B0.1)|((with_reducible refine zr (f:=104) rfl ?_);refine zN (some 8) rfl rfl Tryz.func104 zq13 rfl #[.slice A0 l2.length c0,.int .i64 a1] rfl zq8 ?_;(with_reducible refine (laws_szStringS.calls k _ _ l2 a1 t0 _ ?side1 ?side2 A3.1).mono ?_);(case side1=>repeat (first|exact (Kd.C_below R0.1 HB.1)|(with_reducible refine Kd.C_alloc ?_ _)|(with_reducible refine Kd.C_drewN ?_ _)|(with_reducible refine Kd.C_drew ?_)));(case side2=>exact C0.1);rintro e w' ⟨rfl,⟨nd,rfl⟩⟩;refine ⟨_,rfl,?_⟩)|((with_reducible refine zr (f:=105) rfl ?_);refine zN (some 14) rfl rfl Tryz.func105 zq13 rfl #[.slice A1 l3.length c1,.int .i64 t0] rfl zq8 ?_;(with_reducible refine (laws_szPutS.calls k _ _ l3 t0 t1 _ ?side1 ?side2 A7.1).mono ?_);(case side1=>repeat (first|exact (Kd.C_below R1.1 (zq4 G0.1))|(with_reducible refine Kd.C_alloc ?_ _)|(with_reducible refine Kd.C_drewN ?_ _)|(with_reducible refine Kd.C_drew ?_)));(case side2=>exact C1.1);rintro e w14 ⟨rfl,hb⟩;refine ⟨_,rfl,?_⟩;replace B0:=zz (zg (g:=g0) (o:= .cells #[.slice A0 l2.length c0,.slice A1 l3.length c1] 28 (0,0)) (zq1 B0.1) hb);replace HB:=zz (ze (zq4 G0.1) hb);(try clear hb);(try clear hb2);(try clear hk);(try clear hi)))
   exact zq153
def laws_szIntS.f (l0:List Int) (a1:Int):Option (Int):=if (wrap64 (a1-(l0.length:Int)))<0 then (some (-1)) else (some (wrap64 (a1-(l0.length:Int))))
theorem laws_szIntS.calls (A0:Option Addr) (c0:Nat) (l0:List Int) (a1:Int) (r:Int) (w:World) (hr0:Kd.C (Kd.int .i64) w A0 l0.length l0) (hc0:l0.length≤c0) (h:laws_szIntS.f l0 a1=some r):
  Calls Tryz.prog 76 #[.slice A0 l0.length c0,.int .i64 a1] w fun e w'=>e= .returned (.int .i64 r)∧Drawn0 w w':=by
 clear hr0 hc0
 have H:(if (wrap64 (a1-(l0.length:Int)))<0 then (some (-1)) else (some (wrap64 (a1-(l0.length:Int)))))=some r:=h
 clear h
 by_cases c3:(wrap64 (a1-(l0.length:Int)))<0
 ·rw [if_pos c3] at H
  have c3b0:=z6 c3
  clear c3
  obtain rfl:=z6a H
  go_enter Tryz.func76,Tryz.ntmps76
  exact zq167
 ·rw [if_neg c3] at H
  have c3b0:=z7 c3
  clear c3
  obtain rfl:=z6a H
  go_enter Tryz.func76,Tryz.ntmps76
  exact zq167
def laws_szWork.f (k:Nat) (l0_0:List ByteArray) (l0_1:List (S156)) (a0_2:Int) (l0_3:List Int) (l0_4:List Int) (l0_5:List Int) (a1:Int):Option (Int):=(laws_szDisk.f k l0_0 l0_1 a1).bind fun t109=>(if t109<0 then (some (-1)) else ((laws_szIntS.f l0_3 t109).bind fun t110=>(if t110<0 then (some (-1)) else ((laws_szIntS.f l0_4 t110).bind fun t111=>(if t111<0 then (some (-1)) else ((laws_szIntS.f l0_5 t111).bind fun t112=>(if t112<0 then (some (-1)) else (some t112))))))))
theorem laws_szWork.calls (k:Nat) (A0:Option Addr) (c0:Nat) (l2:List ByteArray) (A1:Option Addr) (c1:Nat) (l3:List (S156)) (a0:Int) (A2:Option Addr) (c11:Nat) (l4:List Int) (A4:Option Addr) (c12:Nat) (l5:List Int) (A5:Option Addr) (c13:Nat) (l6:List Int) (a1:Int) (r:Int) (w:World) (r0:Kd.C Kd.string w A0 l2.length l2) (h0:l2.length≤c0) (r1:Kd.C k156 w A1 l3.length l3) (h2:l3.length≤c1) (r2:Kd.C (Kd.int .i64) w A2 l4.length l4) (h3:l4.length≤c11) (r3:Kd.C (Kd.int .i64) w A4 l5.length l5) (h4:l5.length≤c12) (r4:Kd.C (Kd.int .i64) w A5 l6.length l6) (h5:l6.length≤c13) (h:laws_szWork.f k l2 l3 a0 l4 l5 l6 a1=some r):
  Calls Tryz.prog 31 #[.agg #[.slice A0 l2.length c0,.slice A1 l3.length c1,.int .i64 a0,.slice A2 l4.length c11,.slice A4 l5.length c12,.slice A5 l6.length c13],.int .i64 a1] w fun e w'=>e= .returned (.int .i64 r)∧Below w.heap.size w w':=by
 have hu28:=Tryz.underlying31
 have hu25:=Tryz.underlying28
 have R0:=zz r0
 have C0:=zz h0
 clear r0 h0
 have R1:=zz r1
 have C1:=zz h2
 clear r1 h2
 have R2:=zz r2
 have C2:=zz h3
 clear r2 h3
 have R3:=zz r3
 have C3:=zz h4
 clear r3 h4
 have R4:=zz r4
 have C4:=zz h5
 clear r4 h5
 have HB:=zz (z1a w.heap.size w)
 have H:((laws_szDisk.f k l2 l3 a1).bind fun t0=>(if t0<0 then (some (-1)) else ((laws_szIntS.f l4 t0).bind fun t1=>(if t1<0 then (some (-1)) else ((laws_szIntS.f l5 t1).bind fun t2=>(if t2<0 then (some (-1)) else ((laws_szIntS.f l6 t2).bind fun t3=>(if t3<0 then (some (-1)) else (some t3)))))))))=some r:=h
 clear h
 replace H:=z2a H
 obtain ⟨t0,A6,H⟩:=H
 replace H:(if t0<0 then (some (-1)) else ((laws_szIntS.f l4 t0).bind fun t1=>(if t1<0 then (some (-1)) else ((laws_szIntS.f l5 t1).bind fun t2=>(if t2<0 then (some (-1)) else ((laws_szIntS.f l6 t2).bind fun t3=>(if t3<0 then (some (-1)) else (some t3))))))))=some r:=H
 have A3:=zz A6
 clear A6
 by_cases c4:t0<0
 ·rw [if_pos c4] at H
  have c4b0:=z6 c4
  clear c4
  obtain rfl:=z6a H
  go_enter Tryz.func31,Tryz.ntmps31
  go_wp2_with (first|((with_reducible refine zd (N:=2) rfl ?_);refine zx rfl (N:=2) rfl (cs:= #[.slice A0 l2.length c0,.slice A1 l3.length c1,.int .i64 a0,.slice A2 l4.length c11,.slice A4 l5.length c12,.slice A5 l6.length c13]) (t:=31) zq27 ?_;intro g0 hg w5 hbox hb;have B0:=zz hbox;have G0:=zz (zq15:w.heap.size≤g0);replace HB:=zz (ze zq0 hb);clear hb hbox hg;obtain ⟨_,_,_,_,_,_,_,_,_,_,_,_⟩:=zcell6 B0.1)|((with_reducible refine zr (f:=61) rfl ?_);refine zN (some 8) rfl rfl Tryz.func61 zq13 rfl #[.agg #[.slice A0 l2.length c0,.slice A1 l3.length c1],.int .i64 a1] rfl zq8 ?_;(with_reducible refine (laws_szDisk.calls k _ _ l2 _ _ l3 a1 t0 _ ?side1 ?side2 ?side3 ?side4 A3.1).mono ?_);(case side1=>repeat (first|exact (Kd.C_below R0.1 HB.1)|(with_reducible refine Kd.C_alloc ?_ _)|(with_reducible refine Kd.C_drewN ?_ _)|(with_reducible refine Kd.C_drew ?_)));(case side2=>exact C0.1);(case side3=>repeat (first|exact (Kd.C_below R1.1 HB.1)|(with_reducible refine Kd.C_alloc ?_ _)|(with_reducible refine Kd.C_drewN ?_ _)|(with_reducible refine Kd.C_drew ?_)));(case side4=>exact C1.1);rintro e w7 ⟨rfl,hb⟩;refine ⟨_,rfl,?_⟩;replace B0:=zz (zg (g:=g0) (o:= .cells #[.slice A0 l2.length c0,.slice A1 l3.length c1,.int .i64 a0,.slice A2 l4.length c11,.slice A4 l5.length c12,.slice A5 l6.length c13] 31 (0,0)) (zq1 B0.1) hb);replace HB:=zz (ze (zq4 G0.1) hb);(try clear hb);(try clear hb2);(try clear hk);(try clear hi)))
  exact zq153
 ·rw [if_neg c4] at H
  have c4b0:=z7 c4
  clear c4
  replace H:=z2a H
  obtain ⟨t1,A7,H⟩:=H
  replace H:(if t1<0 then (some (-1)) else ((laws_szIntS.f l5 t1).bind fun t2=>(if t2<0 then (some (-1)) else ((laws_szIntS.f l6 t2).bind fun t3=>(if t3<0 then (some (-1)) else (some t3))))))=some r:=H
  have A8:=zz A7
  clear A7
  by_cases c9:t1<0
  ·rw [if_pos c9] at H
   have c9b0:=z6 c9
   clear c9
   obtain rfl:=z6a H
   go_enter Tryz.func31,Tryz.ntmps31
   go_wp2_with (first|((with_reducible refine zd (N:=2) rfl ?_);refine zx rfl (N:=2) rfl (cs:= #[.slice A0 l2.length c0,.slice A1 l3.length c1,.int .i64 a0,.slice A2 l4.length c11,.slice A4 l5.length c12,.slice A5 l6.length c13]) (t:=31) zq27 ?_;intro g0 hg w10 hbox hb;have B0:=zz hbox;have G0:=zz (zq15:w.heap.size≤g0);replace HB:=zz (ze zq0 hb);clear hb hbox hg;obtain ⟨_,_,_,_,_,_,_,_,_,_,_,_⟩:=zcell6 B0.1)|((with_reducible refine zr (f:=61) rfl ?_);refine zN (some 8) rfl rfl Tryz.func61 zq13 rfl #[.agg #[.slice A0 l2.length c0,.slice A1 l3.length c1],.int .i64 a1] rfl zq8 ?_;(with_reducible refine (laws_szDisk.calls k _ _ l2 _ _ l3 a1 t0 _ ?side1 ?side2 ?side3 ?side4 A3.1).mono ?_);(case side1=>repeat (first|exact (Kd.C_below R0.1 HB.1)|(with_reducible refine Kd.C_alloc ?_ _)|(with_reducible refine Kd.C_drewN ?_ _)|(with_reducible refine Kd.C_drew ?_)));(case side2=>exact C0.1);(case side3=>repeat (first|exact (Kd.C_below R1.1 HB.1)|(with_reducible refine Kd.C_alloc ?_ _)|(with_reducible refine Kd.C_drewN ?_ _)|(with_reducible refine Kd.C_drew ?_)));(case side4=>exact C1.1);rintro e w12 ⟨rfl,hb⟩;refine ⟨_,rfl,?_⟩;replace B0:=zz (zg (g:=g0) (o:= .cells #[.slice A0 l2.length c0,.slice A1 l3.length c1,.int .i64 a0,.slice A2 l4.length c11,.slice A4 l5.length c12,.slice A5 l6.length c13] 31 (0,0)) (zq1 B0.1) hb);replace HB:=zz (ze (zq4 G0.1) hb);(try clear hb);(try clear hb2);(try clear hk);(try clear hi);obtain ⟨_,_,_,_,_,_,_,_,_,_,_,_⟩:=zcell6 B0.1)|((with_reducible refine zr (f:=76) rfl ?_);refine zN (some 14) rfl rfl Tryz.func76 zq13 rfl #[.slice A2 l4.length c11,.int .i64 t0] rfl zq8 ?_;(with_reducible refine (laws_szIntS.calls _ _ l4 t0 t1 _ ?side1 ?side2 A8.1).mono ?_);(case side1=>repeat (first|exact (Kd.C_below R2.1 HB.1)|(with_reducible refine Kd.C_alloc ?_ _)|(with_reducible refine Kd.C_drewN ?_ _)|(with_reducible refine Kd.C_drew ?_)));(case side2=>exact C2.1);rintro e w' ⟨rfl,⟨nd,rfl⟩⟩;refine ⟨_,rfl,?_⟩))
   exact zq153
  ·rw [if_neg c9] at H
   have c9b0:=z7 c9
   clear c9
   replace H:=z2a H
   obtain ⟨t2,A9,H⟩:=H
   replace H:(if t2<0 then (some (-1)) else ((laws_szIntS.f l6 t2).bind fun t3=>(if t3<0 then (some (-1)) else (some t3))))=some r:=H
   have A10:=zz A9
   clear A9
   by_cases c14:t2<0
   ·rw [if_pos c14] at H
    have c16:=z6 c14
    clear c14
    obtain rfl:=z6a H
    go_enter Tryz.func31,Tryz.ntmps31
    go_wp2_with (first|((with_reducible refine zd (N:=2) rfl ?_);refine zx rfl (N:=2) rfl (cs:= #[.slice A0 l2.length c0,.slice A1 l3.length c1,.int .i64 a0,.slice A2 l4.length c11,.slice A4 l5.length c12,.slice A5 l6.length c13]) (t:=31) zq27 ?_;intro g0 hg w16 hbox hb;have B0:=zz hbox;have G0:=zz (zq15:w.heap.size≤g0);replace HB:=zz (ze zq0 hb);clear hb hbox hg;obtain ⟨_,_,_,_,_,_,_,_,_,_,_,_⟩:=zcell6 B0.1)|((with_reducible refine zr (f:=61) rfl ?_);refine zN (some 8) rfl rfl Tryz.func61 zq13 rfl #[.agg #[.slice A0 l2.length c0,.slice A1 l3.length c1],.int .i64 a1] rfl zq8 ?_;(with_reducible refine (laws_szDisk.calls k _ _ l2 _ _ l3 a1 t0 _ ?side1 ?side2 ?side3 ?side4 A3.1).mono ?_);(case side1=>repeat (first|exact (Kd.C_below R0.1 HB.1)|(with_reducible refine Kd.C_alloc ?_ _)|(with_reducible refine Kd.C_drewN ?_ _)|(with_reducible refine Kd.C_drew ?_)));(case side2=>exact C0.1);(case side3=>repeat (first|exact (Kd.C_below R1.1 HB.1)|(with_reducible refine Kd.C_alloc ?_ _)|(with_reducible refine Kd.C_drewN ?_ _)|(with_reducible refine Kd.C_drew ?_)));(case side4=>exact C1.1);rintro e w18 ⟨rfl,hb⟩;refine ⟨_,rfl,?_⟩;replace B0:=zz (zg (g:=g0) (o:= .cells #[.slice A0 l2.length c0,.slice A1 l3.length c1,.int .i64 a0,.slice A2 l4.length c11,.slice A4 l5.length c12,.slice A5 l6.length c13] 31 (0,0)) (zq1 B0.1) hb);replace HB:=zz (ze (zq4 G0.1) hb);(try clear hb);(try clear hb2);(try clear hk);(try clear hi);obtain ⟨_,_,_,_,_,_,_,_,_,_,_,_⟩:=zcell6 B0.1)|((with_reducible refine zr (f:=76) rfl ?_);refine zN (some 14) rfl rfl Tryz.func76 zq13 rfl #[.slice A2 l4.length c11,.int .i64 t0] rfl zq8 ?_;(with_reducible refine (laws_szIntS.calls _ _ l4 t0 t1 _ ?side1 ?side2 A8.1).mono ?_);(case side1=>repeat (first|exact (Kd.C_below R2.1 HB.1)|(with_reducible refine Kd.C_alloc ?_ _)|(with_reducible refine Kd.C_drewN ?_ _)|(with_reducible refine Kd.C_drew ?_)));(case side2=>exact C2.1);rintro e w' ⟨rfl,⟨nd,rfl⟩⟩;refine ⟨_,rfl,?_⟩)|((with_reducible refine zr (f:=76) rfl ?_);refine zN (some 20) rfl rfl Tryz.func76 zq13 rfl #[.slice A4 l5.length c12,.int .i64 t1] rfl zq8 ?_;(with_reducible refine (laws_szIntS.calls _ _ l5 t1 t2 _ ?side1 ?side2 A10.1).mono ?_);(case side1=>repeat (first|exact (Kd.C_below R3.1 (zq4 G0.1))|(with_reducible refine Kd.C_alloc ?_ _)|(with_reducible refine Kd.C_drewN ?_ _)|(with_reducible refine Kd.C_drew ?_)));(case side2=>exact C3.1);rintro e w' ⟨rfl,⟨nd,rfl⟩⟩;refine ⟨_,rfl,?_⟩))
    exact zq153
   ·rw [if_neg c14] at H
    have c16:=z7 c14
    clear c14
    replace H:=z2a H
    obtain ⟨t3,A11,H⟩:=H
    replace H:(if t3<0 then (some (-1)) else (some t3))=some r:=H
    have A12:=zz A11
    clear A11
    by_cases c17:t3<0
    ·rw [if_pos c17] at H
     have c18:=z6 c17
     clear c17
     obtain rfl:=z6a H
     go_enter Tryz.func31,Tryz.ntmps31
     go_wp2_with (first|((with_reducible refine zd (N:=2) rfl ?_);refine zx rfl (N:=2) rfl (cs:= #[.slice A0 l2.length c0,.slice A1 l3.length c1,.int .i64 a0,.slice A2 l4.length c11,.slice A4 l5.length c12,.slice A5 l6.length c13]) (t:=31) zq27 ?_;intro g0 hg w22 hbox hb;have B0:=zz hbox;have G0:=zz (zq15:w.heap.size≤g0);replace HB:=zz (ze zq0 hb);clear hb hbox hg;obtain ⟨_,_,_,_,_,_,_,_,_,_,_,_⟩:=zcell6 B0.1)|((with_reducible refine zr (f:=61) rfl ?_);refine zN (some 8) rfl rfl Tryz.func61 zq13 rfl #[.agg #[.slice A0 l2.length c0,.slice A1 l3.length c1],.int .i64 a1] rfl zq8 ?_;(with_reducible refine (laws_szDisk.calls k _ _ l2 _ _ l3 a1 t0 _ ?side1 ?side2 ?side3 ?side4 A3.1).mono ?_);(case side1=>repeat (first|exact (Kd.C_below R0.1 HB.1)|(with_reducible refine Kd.C_alloc ?_ _)|(with_reducible refine Kd.C_drewN ?_ _)|(with_reducible refine Kd.C_drew ?_)));(case side2=>exact C0.1);(case side3=>repeat (first|exact (Kd.C_below R1.1 HB.1)|(with_reducible refine Kd.C_alloc ?_ _)|(with_reducible refine Kd.C_drewN ?_ _)|(with_reducible refine Kd.C_drew ?_)));(case side4=>exact C1.1);rintro e w24 ⟨rfl,hb⟩;refine ⟨_,rfl,?_⟩;replace B0:=zz (zg (g:=g0) (o:= .cells #[.slice A0 l2.length c0,.slice A1 l3.length c1,.int .i64 a0,.slice A2 l4.length c11,.slice A4 l5.length c12,.slice A5 l6.length c13] 31 (0,0)) (zq1 B0.1) hb);replace HB:=zz (ze (zq4 G0.1) hb);(try clear hb);(try clear hb2);(try clear hk);(try clear hi);obtain ⟨_,_,_,_,_,_,_,_,_,_,_,_⟩:=zcell6 B0.1)|((with_reducible refine zr (f:=76) rfl ?_);refine zN (some 14) rfl rfl Tryz.func76 zq13 rfl #[.slice A2 l4.length c11,.int .i64 t0] rfl zq8 ?_;(with_reducible refine (laws_szIntS.calls _ _ l4 t0 t1 _ ?side1 ?side2 A8.1).mono ?_);(case side1=>repeat (first|exact (Kd.C_below R2.1 HB.1)|(with_reducible refine Kd.C_alloc ?_ _)|(with_reducible refine Kd.C_drewN ?_ _)|(with_reducible refine Kd.C_drew ?_)));(case side2=>exact C2.1);rintro e w' ⟨rfl,⟨nd,rfl⟩⟩;refine ⟨_,rfl,?_⟩)|((with_reducible refine zr (f:=76) rfl ?_);refine zN (some 20) rfl rfl Tryz.func76 zq13 rfl #[.slice A4 l5.length c12,.int .i64 t1] rfl zq8 ?_;(with_reducible refine (laws_szIntS.calls _ _ l5 t1 t2 _ ?side1 ?side2 A10.1).mono ?_);(case side1=>repeat (first|exact (Kd.C_below R3.1 (zq4 G0.1))|(with_reducible refine Kd.C_alloc ?_ _)|(with_reducible refine Kd.C_drewN ?_ _)|(with_reducible refine Kd.C_drew ?_)));(case side2=>exact C3.1);rintro e w' ⟨rfl,⟨nd,rfl⟩⟩;refine ⟨_,rfl,?_⟩)|((with_reducible refine zr (f:=76) rfl ?_);refine zN (some 26) rfl rfl Tryz.func76 zq13 rfl #[.slice A5 l6.length c13,.int .i64 t2] rfl zq8 ?_;(with_reducible refine (laws_szIntS.calls _ _ l6 t2 t3 _ ?side1 ?side2 A12.1).mono ?_);(case side1=>repeat (first|exact (Kd.C_below R4.1 (zq4 G0.1))|(with_reducible refine Kd.C_alloc ?_ _)|(with_reducible refine Kd.C_drewN ?_ _)|(with_reducible refine Kd.C_drew ?_)));(case side2=>exact C4.1);rintro e w' ⟨rfl,⟨nd,rfl⟩⟩;refine ⟨_,rfl,?_⟩))
     exact zq153
    ·rw [if_neg c17] at H
     have c18:=z7 c17
     clear c17
     obtain rfl:=z6a H
     go_enter Tryz.func31,Tryz.ntmps31
     go_wp2_with (first|((with_reducible refine zd (N:=2) rfl ?_);refine zx rfl (N:=2) rfl (cs:= #[.slice A0 l2.length c0,.slice A1 l3.length c1,.int .i64 a0,.slice A2 l4.length c11,.slice A4 l5.length c12,.slice A5 l6.length c13]) (t:=31) zq27 ?_;intro g0 hg w26 hbox hb;have B0:=zz hbox;have G0:=zz (zq15:w.heap.size≤g0);replace HB:=zz (ze zq0 hb);clear hb hbox hg;obtain ⟨_,_,_,_,_,_,_,_,_,_,_,_⟩:=zcell6 B0.1)|((with_reducible refine zr (f:=61) rfl ?_);refine zN (some 8) rfl rfl Tryz.func61 zq13 rfl #[.agg #[.slice A0 l2.length c0,.slice A1 l3.length c1],.int .i64 a1] rfl zq8 ?_;(with_reducible refine (laws_szDisk.calls k _ _ l2 _ _ l3 a1 t0 _ ?side1 ?side2 ?side3 ?side4 A3.1).mono ?_);(case side1=>repeat (first|exact (Kd.C_below R0.1 HB.1)|(with_reducible refine Kd.C_alloc ?_ _)|(with_reducible refine Kd.C_drewN ?_ _)|(with_reducible refine Kd.C_drew ?_)));(case side2=>exact C0.1);(case side3=>repeat (first|exact (Kd.C_below R1.1 HB.1)|(with_reducible refine Kd.C_alloc ?_ _)|(with_reducible refine Kd.C_drewN ?_ _)|(with_reducible refine Kd.C_drew ?_)));(case side4=>exact C1.1);rintro e w28 ⟨rfl,hb⟩;refine ⟨_,rfl,?_⟩;replace B0:=zz (zg (g:=g0) (o:= .cells #[.slice A0 l2.length c0,.slice A1 l3.length c1,.int .i64 a0,.slice A2 l4.length c11,.slice A4 l5.length c12,.slice A5 l6.length c13] 31 (0,0)) (zq1 B0.1) hb);replace HB:=zz (ze (zq4 G0.1) hb);(try clear hb);(try clear hb2);(try clear hk);(try clear hi);obtain ⟨_,_,_,_,_,_,_,_,_,_,_,_⟩:=zcell6 B0.1)|((with_reducible refine zr (f:=76) rfl ?_);refine zN (some 14) rfl rfl Tryz.func76 zq13 rfl #[.slice A2 l4.length c11,.int .i64 t0] rfl zq8 ?_;(with_reducible refine (laws_szIntS.calls _ _ l4 t0 t1 _ ?side1 ?side2 A8.1).mono ?_);(case side1=>repeat (first|exact (Kd.C_below R2.1 HB.1)|(with_reducible refine Kd.C_alloc ?_ _)|(with_reducible refine Kd.C_drewN ?_ _)|(with_reducible refine Kd.C_drew ?_)));(case side2=>exact C2.1);rintro e w' ⟨rfl,⟨nd,rfl⟩⟩;refine ⟨_,rfl,?_⟩)|((with_reducible refine zr (f:=76) rfl ?_);refine zN (some 20) rfl rfl Tryz.func76 zq13 rfl #[.slice A4 l5.length c12,.int .i64 t1] rfl zq8 ?_;(with_reducible refine (laws_szIntS.calls _ _ l5 t1 t2 _ ?side1 ?side2 A10.1).mono ?_);(case side1=>repeat (first|exact (Kd.C_below R3.1 (zq4 G0.1))|(with_reducible refine Kd.C_alloc ?_ _)|(with_reducible refine Kd.C_drewN ?_ _)|(with_reducible refine Kd.C_drew ?_)));(case side2=>exact C3.1);rintro e w' ⟨rfl,⟨nd,rfl⟩⟩;refine ⟨_,rfl,?_⟩)|((with_reducible refine zr (f:=76) rfl ?_);refine zN (some 26) rfl rfl Tryz.func76 zq13 rfl #[.slice A5 l6.length c13,.int .i64 t2] rfl zq8 ?_;(with_reducible refine (laws_szIntS.calls _ _ l6 t2 t3 _ ?side1 ?side2 A12.1).mono ?_);(case side1=>repeat (first|exact (Kd.C_below R4.1 (zq4 G0.1))|(with_reducible refine Kd.C_alloc ?_ _)|(with_reducible refine Kd.C_drewN ?_ _)|(with_reducible refine Kd.C_drew ?_)));(case side2=>exact C4.1);rintro e w' ⟨rfl,⟨nd,rfl⟩⟩;refine ⟨_,rfl,?_⟩))
     exact zq153
def spec_l03Copy.f (l0_0:List ByteArray) (l0_1:List (S110)):Option (List ByteArray×(List (S110))):=(some (([]:List ByteArray):List ByteArray)).bind fun y115=>(if y115.length+l0_0.length<8796093022208 then ((some (([]:List (S110)):List (S110))).bind fun y121=>(if y121.length+l0_1.length<5864062014805 then (some ((y115++l0_0),(y121++l0_1))) else (none))) else (none))
def spec_l03Copy.T1:Bool×List (List Nat×List Nat):=(true,[([],[]),([],[]),([1],[1]),([0,2],[0,2]),([],[]),([],[]),([5],[5]),([4,6,3],[4,6]),([3,7],[3,7]),([8,7,0,1,2,3,4,5,6,7,8],[8])])
def spec_l03Copy.B1:List Nat:=[0,0,2,7,0,0,32,127,255,511]
theorem spec_l03Copy.tab1:rtab .any (zFa Tryz.f36 1)=spec_l03Copy.T1:=zq13
theorem spec_l03Copy.bits1:zQa spec_l03Copy.T1.2 spec_l03Copy.B1=true:=zq13
theorem spec_l03Copy.calls (A0:Option Addr) (c0:Nat) (l2:List ByteArray) (A1:Option Addr) (c1:Nat) (l3:List (S110)) (r1:List ByteArray) (r2:List (S110)) (w:World) (r0:Kd.C Kd.string w A0 l2.length l2) (h0:l2.length≤c0) (r3:Kd.C k110 w A1 l3.length l3) (h2:l3.length≤c1) (h:spec_l03Copy.f l2 l3=some (r1,r2)):
  Calls Tryz.prog 36 #[.agg #[.slice A0 l2.length c0,.slice A1 l3.length c1]] w fun e w'=>∃v0 v1:Value,e= .returned (.agg #[v0,v1])∧Kd.R Kd.string 9 w' w.heap.size (fun _=>True) v0 r1∧Kd.R k110 110 w' w.heap.size (fun _=>True) v1 r2∧Below w.heap.size w w':=by
 have hu32:=Tryz.underlying37
 have R0:=zz r0
 clear r0 h0
 have R1:=zz r3
 clear r3 h2
 have HB:=zz (z1a w.heap.size w)
 have H:((some (([]:List ByteArray):List ByteArray)).bind fun y0=>(if y0.length+l2.length<8796093022208 then ((some (([]:List (S110)):List (S110))).bind fun y1=>(if y1.length+l3.length<5864062014805 then (some ((y0++l2),(y1++l3))) else (none))) else (none)))=some (r1,r2):=h
 clear h
 obtain ⟨y0,i0⟩:∃y_:List ByteArray,y_=(([]:List ByteArray)):=⟨_,rfl⟩
 replace H:(if y0.length+l2.length<8796093022208 then ((some (([]:List (S110)):List (S110))).bind fun y1=>(if y1.length+l3.length<5864062014805 then (some ((y0++l2),(y1++l3))) else (none))) else (none))=some (r1,r2):=zq20
 have Y0:=zz i0
 clear i0
 by_cases c2:y0.length+l2.length<8796093022208
 ·rw [if_pos c2] at H
  have LMc2:=zz c2
  clear c2
  obtain ⟨y2,i1⟩:∃y_:List ByteArray,y_=(y0++l2):=⟨_,rfl⟩
  replace H:((some (([]:List (S110)):List (S110))).bind fun y1=>(if y1.length+l3.length<5864062014805 then (some (y2,(y1++l3))) else (none)))=some (r1,r2):=zq34
  have Y1:=zz i1
  clear i1
  obtain ⟨y1,i2⟩:∃y_:List (S110),y_=(([]:List (S110))):=⟨_,rfl⟩
  replace H:(if y1.length+l3.length<5864062014805 then (some (y2,(y1++l3))) else (none))=some (r1,r2):=zq52
  have Y2:=zz i2
  clear i2
  by_cases c3:y1.length+l3.length<5864062014805
  ·rw [if_pos c3] at H
   have LMc3:=zz c3
   clear c3
   obtain ⟨y3,i3⟩:∃y_:List (S110),y_=(y1++l3):=⟨_,rfl⟩
   replace H:(some (y2,y3))=some (r1,r2):=by first|(rw [i3];with_reducible exact H)|(have H2_:=(Option.bind_some _ _).symm.trans H;rw [i3];with_reducible exact H2_)|(have H2_:=(Option.bind_some _ _).symm.trans H;with_reducible exact H2_)|with_reducible exact H|(rw [i3];exact H)|exact H
   have Y3:=zz i3
   clear i3
   simp only [Option.some.injEq,Prod.mk.injEq] at H
   obtain ⟨rfl,rfl⟩:=H
   go_enter Tryz.func36,Tryz.ntmps36
   try go_wp2_with (first|((with_reducible refine zd (N:=1) rfl ?_);refine zx rfl (N:=1) rfl (cs:= #[.slice A0 l2.length c0,.slice A1 l3.length c1]) (t:=37) zq27 ?_;intro g0 hg w4 hbox hb;have B0:=zz hbox;have G0:=zz (zq15:w.heap.size≤g0);replace HB:=zz (ze zq0 hb);clear hb hbox hg)|((with_reducible refine zd (N:=2) rfl ?_);refine zx rfl (N:=2) rfl (cs:= #[.slice none 0 0,.slice none 0 0]) (t:=37) zq27 ?_;intro g1 hg w5 hbox hb;have B2:=zz hbox;have G1:=zz (zq25 G0.1:w.heap.size≤g1);have N0:=zz (zq28 B0.1:g0≠g1);have N1:=zz (zq29 B0.1:g1≠g0);replace B0:=zz (zg (g:=g0) (o:= .cells #[.slice A0 l2.length c0,.slice A1 l3.length c1] 37 (0,0)) (zq1 B0.1) hb);replace HB:=zz (ze (zq4 G0.1) hb);clear hb hbox hg))
   have n0:=zz (zl B0.1)
   have n1:=zz (zl B2.1)
   have n2:=zz (zR HB.1)
   clear B0
   clear B2
   clear HB
   have B0:=n0
   have B2:=n1
   have HB:=n2
   clear n0 n1 n2
   refine zVb (n:=10) (S:=fun w'=>w'.cell? ⟨g0,0,none⟩=some (.slice A0 l2.length c0)∧w'.cell? ⟨g0,1,none⟩=some (.slice A1 l3.length c1)) (ds:=[]) #[false,false,false,false,false,false,false,false,false,false] zq13 rfl rfl ⟨(zj B0.1 0).trans rfl,(zj B0.1 1).trans rfl⟩ (fun hHeld=> ?_);refine zYa spec_l03Copy.tab1 spec_l03Copy.bits1 (fun HT_ HW_=> ?_)
   generalize w5.drew=w6 at B0 B2 HB hHeld ⊢
   refine zia (i:=1) (N:=some 4) (v:= ?_) (a':= ?_) #[false,true,false,false,false,false,false,false,false,false] rfl rfl (zQ HT_.1 zq13) (fun _ _ _ h=>h) (Or.inl ⟨zq22,zq12⟩) zq10 ?_
   refine zia (i:=5) (N:=some 8) (v:= ?_) (a':= ?_) #[false,true,false,false,false,true,false,false,false,false] rfl rfl (zQ HT_.1 zq13) (fun _ _ _ h=>h) (Or.inl ⟨zq22,zq12⟩) zq10 ?_
   refine take_ (i:=2) (N:=some 5) (v:= ?_) (a':= ?_) #[false,true,true,false,false,true,false,false,false,false] rfl rfl (zja HT_.1 HW_.1 zq13) (fun _ _ _ h=>h) (Or.inl ⟨zq22,zq85⟩) hHeld zq10 ?_
   refine take_ (i:=6) (N:=some 9) (v:= ?_) (a':= ?_) #[false,true,true,false,false,true,true,false,false,false] rfl rfl (zja HT_.1 HW_.1 zq13) (fun _ _ _ h=>h) (Or.inl ⟨zq22,zq85⟩) hHeld zq10 ?_
   refine join_ (σ:=Value×Value×Value) 3 #[true,true,true,true,true,true,true,false,false,false] (fun s_=>[(3,s_.1),(6,s_.2.1),(7,s_.2.2)]) (fun s_ w'=>(w'.cell? ⟨g0,0,none⟩=some (.slice A0 l2.length c0)∧w'.cell? ⟨g0,1,none⟩=some (.slice A1 l3.length c1))∧(Kd.R Kd.string 9 w' w.heap.size (fun _=>True) s_.2.1 y2)∧(Kd.R k110 110 w' w.heap.size (fun _=>True) s_.2.2 y1)∧(w'.heap[g0]?=some (.cells #[.slice A0 l2.length c0,.slice A1 l3.length c1] 37 (0,0)))∧(w'.heap[g1]?=some (.cells #[.slice none 0 0,.slice none 0 0] 37 (0,0)))∧(Below w.heap.size w w')) ?_ ?_
   rotate_left
   ·intro hCont
    refine two_ (i:=0) (j:=4) (Ni:=some 3) (Nj:=some 7) #[true,true,true,false,false,true,true,false,false,false] #[false,true,true,false,true,true,true,false,false,false] rfl rfl rfl rfl (two_of HT_.1 zq13) zq31 zq31 (fun K hK=> ?_) (fun K hK=> ?_)
    ·skip
     refine Kd.R_lit_step Kd.string _ 9 ?hg (N:=3) ?hd (xs:=([]:List ByteArray)) (inner:=[]) (ok:=fun _=>True) (okp:=fun _=>True) ?hr ?hp (fun _ hk=>hk) trivial (z1a _ _) (z3a _) zq38 ?_;(case hd=>rfl);(case hg=>rfl);(case hr=>first|(go_simp;done)|(go_simp;rfl));(case hp=>exact (Reps.none _ _))
     intro v2 w7 ho8 hb hg_ hnew_
     clear hg_ hnew_
     (first|rw [←Y0.1] at ho8|(simp only [Int.reduceToNat] at ho8;rw [←Y0.1] at ho8))
     have n0:=zz (Kd.R_lower ho8 (zD (zq5 G0.1 G1.1)))
     have n1:=zz (zg (g:=g0) (o:= .cells #[.slice A0 l2.length c0,.slice A1 l3.length c1] 37 (0,0)) (zq1 B0.1) hb)
     have n2:=zz (zg (g:=g1) (o:= .cells #[.slice none 0 0,.slice none 0 0] 37 (0,0)) (zq1 B2.1) hb)
     have n3:=zz (ze (zq5 G0.1 G1.1) hb)
     clear B0
     clear B2
     clear HB
     have O0:=n0
     have B0:=n1
     have B2:=n2
     have HB:=n3
     clear n0 n1 n2 n3
     clear hb ho8
     refine hK.out _ _ ⟨(zj B0.1 0).trans rfl,(zj B0.1 1).trans rfl⟩ (fun hHeld=> ?_)
     clear hK K
     refine zUb (a':= ?_) ?_ ?_
     rotate_left
     ·show Act.put _ (some 3) _=_
      exact zq146
     refine two_ (i:=3) (j:=4) (Ni:=some 6) (Nj:=some 7) #[true,true,true,true,false,true,true,false,false,false] #[true,true,true,false,true,true,true,false,false,false] rfl rfl rfl rfl (two_of HT_.1 zq13) zq31 zq31 (fun K hK=> ?_) (fun K hK=> ?_)
     ·skip
      refine Kd.R_append_rows_step Kd.string (w0:=w) w.heap.size zq22 (.tmp 3) (.tmp 5) 25 9 (.string ⟨#[]⟩) 16 rfl Tryz.underlying25 info9 rfl zq31 zq9 v2 y0 l2 _ _ _ (fun _=>True) (fun _=>False) rfl rfl ?aO ?aR (fun _ _ h=>h) (fun _ h=>h.elim) ?aF ?aB ?aS ?aL ?_
      (case aR=>repeat (first|exact (Kd.C_below R0.1 HB.1)|(with_reducible refine Kd.C_alloc ?_ _)|(with_reducible refine Kd.C_drewN ?_ _)|(with_reducible refine Kd.C_drew ?_)))
      (case aB=>exact (zq5 G0.1 G1.1))
      (case aF=>exact (fun _ _=>trivial))
      (case aO=>exact (zq17 O0.1))
      (case aS=>exact (zD (zq5 G0.1 G1.1)))
      (case aL=>have:=LMc2.1;omega)
      intro v3 w9 ho hb hg hat
      rw [←Y1.1] at ho
      have n0:=zz (zK (g:=g0) (o:= .cells #[.slice A0 l2.length c0,.slice A1 l3.length c1] 37 (0,0)) (zq1 B0.1) hg (Kd.R_ne O0.1 B0.1 zq31))
      have n1:=zz (zK (g:=g1) (o:= .cells #[.slice none 0 0,.slice none 0 0] 37 (0,0)) (zq1 B2.1) hg (Kd.R_ne O0.1 B2.1 zq31))
      have n2:=zz (hb)
      have n3:=zz (ho)
      clear B0
      clear B2
      clear HB
      clear O0
      have B0:=n0
      have B2:=n1
      have HB:=n2
      have O1:=n3
      clear n0 n1 n2 n3
      clear ho hb hg hat
      refine hK.out _ _ ⟨(zj B0.1 0).trans rfl,(zj B0.1 1).trans rfl⟩ (fun hHeld=> ?_)
      clear hK K
      refine zUb (a':= ?_) ?_ ?_
      rotate_left
      ·show Act.put _ (some 6) _=_
       exact zq146
      refine one_ (i:=4) (N:=some 7) #[true,true,true,true,true,true,true,false,false,false] rfl rfl (zVa HT_.1 zq13) zq31 (fun K hK=> ?_)
      refine Kd.R_lit_step k110 _ 110 ?hg (N:=7) ?hd (xs:=([]:List (S110))) (inner:=[]) (ok:=fun _=>True) (okp:=fun _=>True) ?hr ?hp (fun _ hk=>hk) trivial (z1a _ _) (z3a _) zq38 ?_;(case hd=>rfl);(case hg=>rfl);(case hr=>first|(go_simp;done)|(go_simp;rfl));(case hp=>exact (Reps.none _ _))
      intro v4 w10 ho11 hb hg_ hnew_
      clear hg_ hnew_
      (first|rw [←Y2.1] at ho11|(simp only [Int.reduceToNat] at ho11;rw [←Y2.1] at ho11))
      have n0:=zz (Kd.R_below (zq17 O1.1) hb)
      have n1:=zz (Kd.R_lower ho11 (zD (zq5 G0.1 G1.1)))
      have n2:=zz (zg (g:=g0) (o:= .cells #[.slice A0 l2.length c0,.slice A1 l3.length c1] 37 (0,0)) (zq1 B0.1) hb)
      have n3:=zz (zg (g:=g1) (o:= .cells #[.slice none 0 0,.slice none 0 0] 37 (0,0)) (zq1 B2.1) hb)
      have n4:=zz (ze (zq5 G0.1 G1.1) hb)
      clear O1
      clear B0
      clear B2
      clear HB
      have O1:=n0
      have O2:=n1
      have B0:=n2
      have B2:=n3
      have HB:=n4
      clear n0 n1 n2 n3 n4
      clear hb ho11
      refine hK.out _ _ ⟨(zj B0.1 0).trans rfl,(zj B0.1 1).trans rfl⟩ (fun hHeld=> ?_)
      clear hK K
      refine zUb (a':= ?_) ?_ ?_
      rotate_left
      ·show Act.put _ (some 7) _=_
       exact zq146
      exact zq217
     ·skip
      refine Kd.R_lit_step k110 _ 110 ?hg (N:=7) ?hd (xs:=([]:List (S110))) (inner:=[]) (ok:=fun _=>True) (okp:=fun _=>True) ?hr ?hp (fun _ hk=>hk) trivial (z1a _ _) (z3a _) zq38 ?_;(case hd=>rfl);(case hg=>rfl);(case hr=>first|(go_simp;done)|(go_simp;rfl));(case hp=>exact (Reps.none _ _))
      intro v4 w9 ho10 hb hg_ hnew_
      clear hg_ hnew_
      (first|rw [←Y2.1] at ho10|(simp only [Int.reduceToNat] at ho10;rw [←Y2.1] at ho10))
      have n0:=zz (Kd.R_below (zq17 O0.1) hb)
      have n1:=zz (Kd.R_lower ho10 (zD (zq5 G0.1 G1.1)))
      have n2:=zz (zg (g:=g0) (o:= .cells #[.slice A0 l2.length c0,.slice A1 l3.length c1] 37 (0,0)) (zq1 B0.1) hb)
      have n3:=zz (zg (g:=g1) (o:= .cells #[.slice none 0 0,.slice none 0 0] 37 (0,0)) (zq1 B2.1) hb)
      have n4:=zz (ze (zq5 G0.1 G1.1) hb)
      clear O0
      clear B0
      clear B2
      clear HB
      have O0:=n0
      have O2:=n1
      have B0:=n2
      have B2:=n3
      have HB:=n4
      clear n0 n1 n2 n3 n4
      clear hb ho10
      refine hK.out _ _ ⟨(zj B0.1 0).trans rfl,(zj B0.1 1).trans rfl⟩ (fun hHeld=> ?_)
      clear hK K
      refine zUb (a':= ?_) ?_ ?_
      rotate_left
      ·show Act.put _ (some 7) _=_
       exact zq146
      exact zq143
    ·skip
     refine Kd.R_lit_step k110 _ 110 ?hg (N:=7) ?hd (xs:=([]:List (S110))) (inner:=[]) (ok:=fun _=>True) (okp:=fun _=>True) ?hr ?hp (fun _ hk=>hk) trivial (z1a _ _) (z3a _) zq38 ?_;(case hd=>rfl);(case hg=>rfl);(case hr=>first|(go_simp;done)|(go_simp;rfl));(case hp=>exact (Reps.none _ _))
     intro v4 w7 ho8 hb hg_ hnew_
     clear hg_ hnew_
     (first|rw [←Y2.1] at ho8|(simp only [Int.reduceToNat] at ho8;rw [←Y2.1] at ho8))
     have n0:=zz (Kd.R_lower ho8 (zD (zq5 G0.1 G1.1)))
     have n1:=zz (zg (g:=g0) (o:= .cells #[.slice A0 l2.length c0,.slice A1 l3.length c1] 37 (0,0)) (zq1 B0.1) hb)
     have n2:=zz (zg (g:=g1) (o:= .cells #[.slice none 0 0,.slice none 0 0] 37 (0,0)) (zq1 B2.1) hb)
     have n3:=zz (ze (zq5 G0.1 G1.1) hb)
     clear B0
     clear B2
     clear HB
     have O2:=n0
     have B0:=n1
     have B2:=n2
     have HB:=n3
     clear n0 n1 n2 n3
     clear hb ho8
     refine hK.out _ _ ⟨(zj B0.1 0).trans rfl,(zj B0.1 1).trans rfl⟩ (fun hHeld=> ?_)
     clear hK K
     refine zUb (a':= ?_) ?_ ?_
     rotate_left
     ·show Act.put _ (some 7) _=_
      exact zq146
     refine one_ (i:=0) (N:=some 3) #[true,true,true,false,true,true,true,false,false,false] rfl rfl (zVa HT_.1 zq13) zq31 (fun K hK=> ?_)
     refine Kd.R_lit_step Kd.string _ 9 ?hg (N:=3) ?hd (xs:=([]:List ByteArray)) (inner:=[]) (ok:=fun _=>True) (okp:=fun _=>True) ?hr ?hp (fun _ hk=>hk) trivial (z1a _ _) (z3a _) zq38 ?_;(case hd=>rfl);(case hg=>rfl);(case hr=>first|(go_simp;done)|(go_simp;rfl));(case hp=>exact (Reps.none _ _))
     intro v2 w9 ho10 hb hg_ hnew_
     clear hg_ hnew_
     (first|rw [←Y0.1] at ho10|(simp only [Int.reduceToNat] at ho10;rw [←Y0.1] at ho10))
     have n0:=zz (Kd.R_below (zq17 O2.1) hb)
     have n1:=zz (Kd.R_lower ho10 (zD (zq5 G0.1 G1.1)))
     have n2:=zz (zg (g:=g0) (o:= .cells #[.slice A0 l2.length c0,.slice A1 l3.length c1] 37 (0,0)) (zq1 B0.1) hb)
     have n3:=zz (zg (g:=g1) (o:= .cells #[.slice none 0 0,.slice none 0 0] 37 (0,0)) (zq1 B2.1) hb)
     have n4:=zz (ze (zq5 G0.1 G1.1) hb)
     clear O2
     clear B0
     clear B2
     clear HB
     have O2:=n0
     have O0:=n1
     have B0:=n2
     have B2:=n3
     have HB:=n4
     clear n0 n1 n2 n3 n4
     clear hb ho10
     refine hK.out _ _ ⟨(zj B0.1 0).trans rfl,(zj B0.1 1).trans rfl⟩ (fun hHeld=> ?_)
     clear hK K
     refine zUb (a':= ?_) ?_ ?_
     rotate_left
     ·show Act.put _ (some 3) _=_
      exact zq146
     exact zq143
   rintro ⟨v2,v3,v4⟩ w14 ⟨hS_,h0_,h1_,h2_,h3_,h4_⟩
   have n0:Z0 (Kd.R Kd.string 9 w14 w.heap.size (fun _=>True) v3 y2):=⟨h0_⟩
   have n1:Z0 (Kd.R k110 110 w14 w.heap.size (fun _=>True) v4 y1):=⟨h1_⟩
   have n2:Z0 (w14.heap[g0]?=some (.cells #[.slice A0 l2.length c0,.slice A1 l3.length c1] 37 (0,0))):=⟨h2_⟩
   have n3:Z0 (w14.heap[g1]?=some (.cells #[.slice none 0 0,.slice none 0 0] 37 (0,0))):=⟨h3_⟩
   have n4:Z0 (Below w.heap.size w w14):=⟨h4_⟩
   clear B0
   clear B2
   clear HB
   clear h0_ h1_ h2_ h3_ h4_
   have O1:=n0
   have O2:=n1
   have B0:=n2
   have B2:=n3
   have HB:=n4
   clear n0 n1 n2 n3 n4
   have hHeld:w14.cell? ⟨g0,0,none⟩=some (.slice A0 l2.length c0)∧w14.cell? ⟨g0,1,none⟩=some (.slice A1 l3.length c1):=hS_
   refine zUb (a':= ?_) ?_ ?_
   rotate_left
   ·simp only [putAll,Act.put,List.setIfInBounds_toArray,List.set_cons_zero,List.set_cons_succ]
    rfl
   refine one_ (i:=7) (N:=some 10) #[true,true,true,true,true,true,true,true,false,false] rfl rfl (zVa HT_.1 zq13) zq31 (fun K hK=> ?_)
   refine Kd.R_append_rows_step k110 (w0:=w) w.heap.size zq22 (.tmp 7) (.tmp 9) 35 110 (.agg #[(.int .i64 0),(.string ⟨#[]⟩)]) 24 rfl Tryz.underlying35 info110 rfl zq31 zq9 v4 y1 l3 _ _ _ (fun _=>True) (fun _=>False) rfl rfl ?aO ?aR (fun _ _ h=>h) (fun _ h=>h.elim) ?aF ?aB ?aS ?aL ?_
   (case aR=>repeat (first|exact (Kd.C_below R1.1 HB.1)|(with_reducible refine Kd.C_alloc ?_ _)|(with_reducible refine Kd.C_drewN ?_ _)|(with_reducible refine Kd.C_drew ?_)))
   (case aB=>exact (zq5 G0.1 G1.1))
   (case aF=>exact (fun _ _=>trivial))
   (case aO=>exact (zq17 O2.1))
   (case aS=>exact (zD (zq5 G0.1 G1.1)))
   (case aL=>have:=LMc3.1;omega)
   intro v125 w15 ho hb hg hat
   rw [←Y3.1] at ho
   have n0:=zz (zK (g:=g0) (o:= .cells #[.slice A0 l2.length c0,.slice A1 l3.length c1] 37 (0,0)) (zq1 B0.1) hg (Kd.R_ne O2.1 B0.1 zq31))
   have n1:=zz (zK (g:=g1) (o:= .cells #[.slice none 0 0,.slice none 0 0] 37 (0,0)) (zq1 B2.1) hg (Kd.R_ne O2.1 B2.1 zq31))
   have n2:=zz (Kd.R_over' (zq17 O1.1) (Kd.R_typed (zq17 O2.1)) zq31 hg)
   have n3:=zz (hb)
   have n4:=zz (ho)
   clear B0
   clear B2
   clear O1
   clear HB
   clear O2
   have B0:=n0
   have B2:=n1
   have O1:=n2
   have HB:=n3
   have O3:=n4
   clear n0 n1 n2 n3 n4
   clear ho hb hg hat
   obtain ⟨A2,c11,e0⟩:=Kd.R_slice O3.1
   (first|subst e0|(injection e0 with f1_ f2_ f3_;have f4_:=f1_.symm;have f5_:=f3_.symm;clear f1_ f2_ f3_;subst f4_;subst f5_))
   obtain ⟨A4,c12,e1⟩:=Kd.R_slice O1.1
   (first|subst e1|(injection e1 with f1_ f2_ f3_;have f4_:=f1_.symm;have f5_:=f3_.symm;clear f1_ f2_ f3_;subst f4_;subst f5_))
   refine hK.out _ _ ⟨(zj B0.1 0).trans rfl,(zj B0.1 1).trans rfl⟩ (fun hHeld=> ?_)
   clear hK K
   refine zUb (a':= ?_) ?_ ?_
   rotate_left
   ·show Act.put _ (some 10) _=_
    exact zq146
   refine zia (i:=8) (N:=some 11) (v:= ?_) (a':= ?_) #[true,true,true,true,true,true,true,true,true,false] rfl rfl (zQ HT_.1 zq13) (fun _ _ _ h=>h) (Or.inl ⟨zq22,zq12⟩) zq10 ?_
   refine one_ (i:=9) (N:=none) #[true,true,true,true,true,true,true,true,true,true] rfl rfl (zVa HT_.1 zq13) zq31 (fun K hK=> ?_)
   have hs16:w15.cell? ⟨g1,0,none⟩=some (.slice none 0 0):=(zj B2.1 0).trans rfl
   have hfs16:=zu B2.1 0
   have hns16_0:=N0.1
   have hms16_0:=N1.1
   have hs17:w15.cell? ⟨g1,1,none⟩=some (.slice none 0 0):=(zj B2.1 1).trans rfl
   have hfs17:=zu B2.1 1
   have hns17_0:=N0.1
   have hms17_0:=N1.1
   refine skip_ (w1:= ?_) zq22 rfl ?_ ?_
   rotate_left
   ·go_simp
    rfl
   refine hK.out _ _ ⟨((zQb (p:=⟨g1,_,none⟩) N0.1 _).trans (((zQb (p:=⟨g1,_,none⟩) N0.1 _).trans (hHeld.1)))),((zQb (p:=⟨g1,_,none⟩) N0.1 _).trans (((zQb (p:=⟨g1,_,none⟩) N0.1 _).trans (hHeld.2))))⟩ (fun hHeld=> ?_)
   clear hK K
   refine done_ (done_of HT_.1 zq13) ?_
   try go_wp2
   refine bodyPost_ret (results_cell_row rfl _ _ g1 37 #[.slice A4 y2.length c12,.slice A2 y3.length c11] (0,0) _ rfl (by (with_reducible repeat (first|refine zk ?_ _|refine zl ?_|refine zh ?_ _));refine zW (cs:= #[.slice A4 y2.length c12,.slice none 0 0]) ?_ 1 _ rfl;(with_reducible repeat (first|refine zk ?_ _|refine zl ?_|refine zh ?_ _));refine zW (cs:= #[.slice none 0 0,.slice none 0 0]) ?_ 0 _ rfl;(with_reducible repeat (first|refine zk ?_ _|refine zl ?_|refine zh ?_ _));exact B2.1) Tryz.underlying37 rfl zq13) rfl ?_
   exact ⟨_,_,zq16,zq70 O1.1 B2.1,zq70 O3.1 B2.1,zq5 G0.1 G1.1⟩
  ·exact zq166
 ·exact zq211
end Go.Proofs.YtonhdiemjgdcnaaGreat.PFnExactGivePage
