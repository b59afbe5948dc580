import Derived.Test.YtonhdiemjgdcnaaPA1
import Derived.Test.YtonhdiemjgdcnaaProg
import Derived.Laws.Cover1
set_option maxHeartbeats 64000000
set_option maxRecDepth 100000
set_option linter.unusedVariables false
set_option linter.unusedSimpArgs false
namespace Go.Proofs.Ytonhdiemjgdcnaa.PFnExactGivePage
open Go.RowKit Go.Proofs.YtonhdiemjgdcnaaW.PrintWords Go.Proofs.YtonhdiemjgdcnaaW.PrintLast Go.Proofs.YtonhdiemjgdcnaaW.PrintMore
attribute [local go_sem] zO zP zY zX zK zJ zQ zR
theorem zp {P:Program} {α:Type} {d:Kd α} {e base:Nat} {w:World} {ok:Nat→Prop} {v:Value} {xs:List α} (h:Kd.R d e w base ok v xs):∀(a:Addr) (m:Mode) (W:World),(store a v m).run P W=stored P W a v m:=by
 obtain ⟨A,c,rfl⟩:=Kd.R_slice h
 intro a m W
 exact run_store P W a _ m rfl
def errW:Option Int→Value
 |none=> .nilIface
 |some c=> .iface 0 (.int .i64 c)
theorem errW_none:errW none= .nilIface:=rfl
theorem errW_some (c:Int):errW (some c)= .iface 0 (.int .i64 c):=rfl
theorem info3:(Try.prog.info? 3).map (fun i=>(i.zero,i.size,i.bytes))=some (some (.int .i64 0),1,8):=zq15
theorem info5:(Try.prog.info? 5).map (fun i=>(i.zero,i.size,i.bytes))=some (some (.int .u8 0),1,1):=zq15
theorem info9:(Try.prog.info? 9).map (fun i=>(i.zero,i.size,i.bytes))=some (some (.string ⟨#[]⟩),1,16):=zq15
theorem info135:(Try.prog.info? 135).map (fun i=>(i.zero,i.size,i.bytes))=some (some (.agg #[(.int .i64 0),(.string ⟨#[]⟩)]),2,24):=zq15
structure S140 where
 f0:Int
 f1:ByteArray
def z140:S140:=⟨(0:Int),(⟨#[]⟩:ByteArray)⟩
def k140:Kd S140:=Kd.iso (Kd.pair (Kd.int .i64) Kd.string) (fun x:S140=>(x.f0,x.f1))
theorem k140_open {w:World} {x:S140} {cs:List Value} (h:k140.K w x cs):cs=[.int .i64 x.f0,.string x.f1]:=by
 obtain ⟨_,_,rfl,rfl,rfl⟩:=h
 exact rfl
def zba (xs:List S140) (i:Int):S140:=xs.getD i.toNat z140
theorem at_T140 {w:World} {A:Option Addr} {n:Nat} {xs:List S140} (h:Kd.C k140 w A n xs) (i:Int) (h0:0≤i) (h1:i<n):∃ad,A=some ad∧w.cell? (ad.add (i.toNat*2))=some (.int .i64 (zba xs i).f0)∧w.cell? ⟨(ad.add (i.toNat*2)).block,(ad.add (i.toNat*2)).off+1,none⟩=some (.string (zba xs i).f1):=by
 obtain ⟨ad,c,e,_,hK,hc0⟩:=Kd.C_get h z140 i h0 h1
 have hc:∀j u,c[j]?=some u→w.cell? (ad.add (i.toNat*2+j))=some u:=hc0
 obtain rfl:=k140_open hK
 exact ⟨ad,e,hc 0 _ rfl,by rw [←add_field _ _ 1 zq11];exact hc 1 _ rfl⟩
structure S135 where
 f0:Int
 f1:ByteArray
def z135:S135:=⟨(0:Int),(⟨#[]⟩:ByteArray)⟩
def k135:Kd S135:=Kd.iso (Kd.pair (Kd.int .i64) Kd.string) (fun x:S135=>(x.f0,x.f1))
theorem k135_open {w:World} {x:S135} {cs:List Value} (h:k135.K w x cs):cs=[.int .i64 x.f0,.string x.f1]:=by
 obtain ⟨_,_,rfl,rfl,rfl⟩:=h
 exact rfl
theorem zEa {w:World} {base:Nat} {ok:Nat→Prop} {x:S135} {cs:List Value} (h:k135.M w base ok x cs):cs=[.int .i64 x.f0,.string x.f1]:=by
 obtain ⟨_,_,rfl,rfl,rfl⟩:=h
 exact rfl
theorem k135_mkM (w:World) (base:Nat) (ok:Nat→Prop) (x:S135):k135.M w base ok x [.int .i64 x.f0,.string x.f1]:=⟨[.int .i64 x.f0],[.string x.f1],rfl,rfl,rfl⟩
def zx (xs:List S135) (i:Int):S135:=xs.getD i.toNat z135
theorem zsa {w:World} {A:Option Addr} {n:Nat} {xs:List S135} (h:Kd.C k135 w A n xs) (i:Int) (h0:0≤i) (h1:i<n):∃ad,A=some ad∧w.cell? (ad.add (i.toNat*2))=some (.int .i64 (zx xs i).f0)∧w.cell? ⟨(ad.add (i.toNat*2)).block,(ad.add (i.toNat*2)).off+1,none⟩=some (.string (zx xs i).f1):=by
 obtain ⟨ad,c,e,_,hK,hc0⟩:=Kd.C_get h z135 i h0 h1
 have hc:∀j u,c[j]?=some u→w.cell? (ad.add (i.toNat*2+j))=some u:=hc0
 obtain rfl:=k135_open hK
 exact ⟨ad,e,hc 0 _ rfl,by rw [←add_field _ _ 1 zq11];exact hc 1 _ rfl⟩
def laws_szStringS.l0:Nat→List ByteArray→Int→Int→Option (Int)
 |0,_,_,_=>none
 |k+1,x0,x1,x5=>if x5<(x0.length:Int) then (if 0≤x5 then (if (wrap64 (x1-((zpa ByteArray.empty x0 x5).size:Int)))<0 then (some (-1)) else (laws_szStringS.l0 k x0 (wrap64 (x1-((zpa ByteArray.empty x0 x5).size:Int))) (wrap64 (x5+1)))) else (none)) else (some x1)
def laws_szStringS.f (k:Nat) (l0:List ByteArray) (a1:Int):Option (Int):=if (wrap64 (a1-(l0.length:Int)))<0 then (some (-1)) else (laws_szStringS.l0 k l0 (wrap64 (a1-(l0.length:Int))) 0)
theorem laws_szStringS.mono_l:∀k,(∀y0 y1 y2,LeO (laws_szStringS.l0 k y0 y1 y2) (laws_szStringS.l0 (k+1) y0 y1 y2))
 |0=>fun _ _ _ r h=>by simp [laws_szStringS.l0] at h
 |k+1=>by
  have ih0:=laws_szStringS.mono_l k
  ·intro y0 y1 y2
   unfold laws_szStringS.l0
   repeat' first
   |(with_reducible exact ih0 _ _ _)
   |(with_reducible exact LeO.refl _)
   |(with_reducible exact LeO.none _)
   |(with_reducible refine LeO.ite ?_ ?_)
   |(with_reducible refine LeO.bind ?_ (fun _=> ?_))
   |exact ih0 _ _ _
theorem laws_szStringS.mono:∀a0 a1 k,LeO (laws_szStringS.f k a0 a1) (laws_szStringS.f (k+1) a0 a1):=by
 intro a0 a1 k
 have ih0:=laws_szStringS.mono_l k
 unfold laws_szStringS.f
 repeat' first
   |(with_reducible exact ih0 _ _ _)
   |(with_reducible exact LeO.refl _)
   |(with_reducible exact LeO.none _)
   |(with_reducible refine LeO.ite ?_ ?_)
   |(with_reducible refine LeO.bind ?_ (fun _=> ?_))
   |exact ih0 _ _ _
theorem laws_szStringS.calls (k:Nat) (A0:Option Addr) (c0:Nat) (l0:List ByteArray) (a1:Int) (r:Int) (w:World) (hr0:Kd.C Kd.string w A0 l0.length l0) (hc0:l0.length≤c0) (h:laws_szStringS.f k l0 a1=some r):
  Calls Try.prog 54 #[.slice A0 l0.length c0,.int .i64 a1] w fun e w'=>e= .returned (.int .i64 r)∧Drawn0 w w':=by
 have HR0:=zz hr0
 have HC0:=zz hc0
 clear hr0 hc0
 have H:(if (wrap64 (a1-(l0.length:Int)))<0 then (some (-1)) else (laws_szStringS.l0 k l0 (wrap64 (a1-(l0.length:Int))) 0))=some r:=h
 clear h
 by_cases c3:(wrap64 (a1-(l0.length:Int)))<0
 ·rw [if_pos c3] at H
  have c3b0:=decide_eq_true c3
  clear c3
  obtain rfl:=Option.some.inj H
  go_enter Try.func54,Try.ntmps54
  go_wp2
  go_ret
  exact ⟨zq16,by repeat (first|exact Drawn0.refl _|apply Drawn0.step)⟩
 ·rw [if_neg c3] at H
  have c3b0:=decide_eq_false c3
  clear c3
  have H':=zz H
  clear H
  go_enter Try.func54,Try.ntmps54
  go_wp2
  go_loopg [1,5] k (fun kq v1 v5 w'=>∃(x1_1:Int) (x5_1:Int),v1= .int .i64 x1_1∧v5= .int .i64 x5_1∧Z0 (laws_szStringS.l0 kq l0 x1_1 x5_1=some r)∧Z0 (kq≤k)∧Drawn0 w w')
  case atStart=>exact ⟨(wrap64 (a1-(l0.length:Int))),(0),zq16,zq16,H',⟨Nat.le_refl _⟩,by repeat (first|exact Drawn0.refl _|apply Drawn0.step)⟩
  case round=>
   clear H'
   try clear c3
   try clear c3b0
   obtain ⟨x1_1,x5_1,rfl,rfl,HA,HK1,⟨m1,rfl⟩⟩:=hrel
   cases gk with
   |zero=>exact absurd HA.out (by simp [laws_szStringS.l0])
   |succ k1=>
    have H:=HA.out
    clear HA
    simp only [laws_szStringS.l0] at H
    by_cases c4:x5_1<(l0.length:Int)
    ·rw [if_pos c4] at H
     have c4b0:=decide_eq_true c4
     clear c4
     by_cases c5:0≤x5_1
     ·rw [if_pos c5] at H
      have c5b0:=decide_eq_true c5
      clear c5
      by_cases c6:(wrap64 (x1_1-((zpa ByteArray.empty l0 x5_1).size:Int)))<0
      ·rw [if_pos c6] at H
       have c6b0:=decide_eq_true c6
       clear c6
       obtain rfl:=Option.some.inj H
       have p101:0≤(x5_1:Int):=of_decide_eq_true zq24
       have q101:x5_1<(l0.length:Int):=of_decide_eq_true zq24
       obtain ⟨ad101,e101,hx101_0⟩:=Kd.at_string HR0.out x5_1 p101 q101
       cases e101
       replace p101:=eq_true p101
       replace q101:=eq_true q101
       go_wp2
       go_ret
       exact ⟨zq16,by repeat (first|exact Drawn0.refl _|apply Drawn0.step)⟩
      ·rw [if_neg c6] at H
       have c6b0:=decide_eq_false c6
       clear c6
       have H':=zz H
       clear H
       have p101:0≤(x5_1:Int):=of_decide_eq_true zq24
       have q101:x5_1<(l0.length:Int):=of_decide_eq_true zq24
       obtain ⟨ad101,e101,hx101_0⟩:=Kd.at_string HR0.out x5_1 p101 q101
       cases e101
       replace p101:=eq_true p101
       replace q101:=eq_true q101
       go_wp2
       go_roundg k1
       case measure=>have:=HK1.out;omega
       case rel=>exact ⟨(wrap64 (x1_1-((zpa ByteArray.empty l0 x5_1).size:Int))),(wrap64 (x5_1+1)),zq16,zq16,H',⟨zq95 HK1.out⟩,by repeat (first|exact Drawn0.refl _|apply Drawn0.step)⟩
     ·rw [if_neg c5] at H
      exact absurd H zq52
    ·rw [if_neg c4] at H
     have c4b0:=decide_eq_false c4
     clear c4
     obtain rfl:=Option.some.inj H
     go_wp2
     go_ret
     exact ⟨zq16,by repeat (first|exact Drawn0.refl _|apply Drawn0.step)⟩
def laws_szPut.f (a0_0:Int) (a0_1:ByteArray) (a1:Int):Option (Int):=if (wrap64 (a1-(a0_1.size:Int)))<0 then (some (-1)) else (some (wrap64 (a1-(a0_1.size:Int))))
theorem laws_szPut.calls (a0_0:Int) (a0_1:ByteArray) (a1:Int) (r:Int) (w:World) (h:laws_szPut.f a0_0 a0_1 a1=some r):
  Calls Try.prog 115 #[.agg #[.int .i64 a0_0,.string a0_1],.int .i64 a1] w fun e w'=>e= .returned (.int .i64 r)∧Below w.heap.size w w':=by
 have hu140:=Try.underlying140
 have HB:=zz (Below.refl w.heap.size w)
 have H:(if (wrap64 (a1-(a0_1.size:Int)))<0 then (some (-1)) else (some (wrap64 (a1-(a0_1.size:Int)))))=some r:=h
 clear h
 by_cases c3:(wrap64 (a1-(a0_1.size:Int)))<0
 ·rw [if_pos c3] at H
  have c3b0:=decide_eq_true c3
  clear c3
  obtain rfl:=Option.some.inj H
  go_enter Try.func115,Try.ntmps115
  go_wp2_with (first|((with_reducible refine zm (N:=2) rfl ?_);refine zq ?hg (N:=2) ?hd (cs:= #[.int .i64 a0_0,.string a0_1]) (t:=140) ?hr ?_;(case hd=>rfl);(case hg=>rfl);(case hr=>first|(go_simp;done)|(go_simp;rfl));intro gb102 hg w4 hbox hb;have n0_:=zz (ze zq2 hb);have n1_:=zz (hbox);have n2_:=zz ((by rw [hg];exact (zc zq2):w.heap.size≤gb102));have n3_:=zz ((by rw [hg];exact (zc zq2):w.heap.size≤gb102));clear HB;have HB:=n0_;have BK102:=n1_;have GW102:=n2_;have GE102:=n3_;clear n0_ n1_ n2_ n3_;clear hb hbox hg;have hcz5_0:w4.cell? ⟨gb102,0,none⟩=some (.int .i64 a0_0):=(zb BK102.out 0).trans rfl;have hcz5_1:w4.cell? ⟨gb102,1,none⟩=some (.string a0_1):=(zb BK102.out 1).trans rfl;have hfz5_0:=za BK102.out 0;have hfz5_1:=za BK102.out 1))
  go_ret
  exact ⟨zq10,by repeat (first|(with_reducible first|exact HB.out|apply zg|apply zd|apply zk|refine zn ?_ GE102.out)|exact HB.out)⟩
 ·rw [if_neg c3] at H
  have c3b0:=decide_eq_false c3
  clear c3
  obtain rfl:=Option.some.inj H
  go_enter Try.func115,Try.ntmps115
  go_wp2_with (first|((with_reducible refine zm (N:=2) rfl ?_);refine zq ?hg (N:=2) ?hd (cs:= #[.int .i64 a0_0,.string a0_1]) (t:=140) ?hr ?_;(case hd=>rfl);(case hg=>rfl);(case hr=>first|(go_simp;done)|(go_simp;rfl));intro gb102 hg w6 hbox hb;have n0_:=zz (ze zq2 hb);have n1_:=zz (hbox);have n2_:=zz ((by rw [hg];exact (zc zq2):w.heap.size≤gb102));have n3_:=zz ((by rw [hg];exact (zc zq2):w.heap.size≤gb102));clear HB;have HB:=n0_;have BK102:=n1_;have GW102:=n2_;have GE102:=n3_;clear n0_ n1_ n2_ n3_;clear hb hbox hg;have hcz7_0:w6.cell? ⟨gb102,0,none⟩=some (.int .i64 a0_0):=(zb BK102.out 0).trans rfl;have hcz7_1:w6.cell? ⟨gb102,1,none⟩=some (.string a0_1):=(zb BK102.out 1).trans rfl;have hfz7_0:=za BK102.out 0;have hfz7_1:=za BK102.out 1))
  go_ret
  exact ⟨zq10,by repeat (first|(with_reducible first|exact HB.out|apply zg|apply zd|apply zk|refine zn ?_ GE102.out)|exact HB.out)⟩
def laws_szPutS.l0:Nat→List (S140)→Int→Int→Option (Int)
 |0,_,_,_=>none
 |k+1,x0,x1,x5=>if x5<(x0.length:Int) then (if 0≤x5 then ((laws_szPut.f ((zba x0 x5).f0) ((zba x0 x5).f1) x1).bind fun t104=>(if t104<0 then (some (-1)) else (laws_szPutS.l0 k x0 t104 (wrap64 (x5+1))))) else (none)) else (some x1)
def laws_szPutS.f (k:Nat) (l0:List (S140)) (a1:Int):Option (Int):=if (wrap64 (a1-(l0.length:Int)))<0 then (some (-1)) else (laws_szPutS.l0 k l0 (wrap64 (a1-(l0.length:Int))) 0)
theorem laws_szPutS.mono_l:∀k,(∀y0 y1 y2,LeO (laws_szPutS.l0 k y0 y1 y2) (laws_szPutS.l0 (k+1) y0 y1 y2))
 |0=>fun _ _ _ r h=>by simp [laws_szPutS.l0] at h
 |k+1=>by
  have ih0:=laws_szPutS.mono_l k
  ·intro y0 y1 y2
   unfold laws_szPutS.l0
   repeat' first
   |(with_reducible exact ih0 _ _ _)
   |(with_reducible exact LeO.refl _)
   |(with_reducible exact LeO.none _)
   |(with_reducible refine LeO.ite ?_ ?_)
   |(with_reducible refine LeO.bind ?_ (fun _=> ?_))
   |exact ih0 _ _ _
theorem laws_szPutS.mono:∀a0 a1 k,LeO (laws_szPutS.f k a0 a1) (laws_szPutS.f (k+1) a0 a1):=by
 intro a0 a1 k
 have ih0:=laws_szPutS.mono_l k
 unfold laws_szPutS.f
 repeat' first
   |(with_reducible exact ih0 _ _ _)
   |(with_reducible exact LeO.refl _)
   |(with_reducible exact LeO.none _)
   |(with_reducible refine LeO.ite ?_ ?_)
   |(with_reducible refine LeO.bind ?_ (fun _=> ?_))
   |exact ih0 _ _ _
theorem laws_szPutS.calls (k:Nat) (A0:Option Addr) (c0:Nat) (l0:List (S140)) (a1:Int) (r:Int) (w:World) (hr0:Kd.C k140 w A0 l0.length l0) (hc0:l0.length≤c0) (h:laws_szPutS.f k l0 a1=some r):
  Calls Try.prog 62 #[.slice A0 l0.length c0,.int .i64 a1] w fun e w'=>e= .returned (.int .i64 r)∧Below w.heap.size w w':=by
 have hu140:=Try.underlying140
 have HR0:=zz hr0
 have HC0:=zz hc0
 clear hr0 hc0
 have HB:=zz (Below.refl w.heap.size w)
 have H:(if (wrap64 (a1-(l0.length:Int)))<0 then (some (-1)) else (laws_szPutS.l0 k l0 (wrap64 (a1-(l0.length:Int))) 0))=some r:=h
 clear h
 by_cases c3:(wrap64 (a1-(l0.length:Int)))<0
 ·rw [if_pos c3] at H
  have c3b0:=decide_eq_true c3
  clear c3
  obtain rfl:=Option.some.inj H
  go_enter Try.func62,Try.ntmps62
  go_wp2
  go_ret
  exact ⟨zq10,by repeat (first|(with_reducible first|exact HB.out|apply zg|apply zd|apply zk)|exact HB.out)⟩
 ·rw [if_neg c3] at H
  have c3b0:=decide_eq_false c3
  clear c3
  have H':=zz H
  clear H
  go_enter Try.func62,Try.ntmps62
  go_wp2
  go_loopg [1,5] k (fun kq v1 v5 w'=>∃(x1_1:Int) (x5_1:Int),v1= .int .i64 x1_1∧v5= .int .i64 x5_1∧Z0 (laws_szPutS.l0 kq l0 x1_1 x5_1=some r)∧Z0 (kq≤k)∧Z0 (Below w.heap.size w w'))
  case atStart=>exact ⟨(wrap64 (a1-(l0.length:Int))),(0),zq16,zq16,H',⟨Nat.le_refl _⟩,⟨by repeat (first|(with_reducible first|exact HB.out|apply zg|apply zd|apply zk)|exact HB.out)⟩⟩
  case round=>
   clear H'
   try clear c3
   try clear c3b0
   obtain ⟨x1_1,x5_1,rfl,rfl,HA,HK1,HB⟩:=hrel
   cases gk with
   |zero=>exact absurd HA.out (by simp [laws_szPutS.l0])
   |succ k1=>
    have H:=HA.out
    clear HA
    simp only [laws_szPutS.l0] at H
    by_cases c4:x5_1<(l0.length:Int)
    ·rw [if_pos c4] at H
     have c4b0:=decide_eq_true c4
     clear c4
     by_cases c5:0≤x5_1
     ·rw [if_pos c5] at H
      have c5b0:=decide_eq_true c5
      clear c5
      replace H:=Option.bind_eq_some_iff.mp H
      obtain ⟨t104,A60,H⟩:=H
      replace H:(if t104<0 then (some (-1)) else (laws_szPutS.l0 k1 l0 t104 (wrap64 (x5_1+1))))=some r:=H
      have A6:=zz A60
      clear A60
      by_cases c7:t104<0
      ·rw [if_pos c7] at H
       have c7b0:=decide_eq_true c7
       clear c7
       obtain rfl:=Option.some.inj H
       have p103:0≤(x5_1:Int):=of_decide_eq_true zq24
       have q103:x5_1<(l0.length:Int):=of_decide_eq_true zq24
       obtain ⟨ad103,e103,hx103_0,hx103_1⟩:=at_T140 HR0.out x5_1 p103 q103
       cases e103
       replace hx103_0:=(HB.out.cell (World.block_lt_of_cell? w _ hx103_0)).trans hx103_0
       replace hx103_1:=(HB.out.cell (World.block_lt_of_cell? w _ hx103_1)).trans hx103_1
       replace p103:=eq_true p103
       replace q103:=eq_true q103
       go_wp2_with (first|((with_reducible refine zo (f:=115) rfl ?_);refine zw (some 23) rfl rfl Try.func115 zq15 rfl #[.agg #[.int .i64 ((zba l0 x5_1).f0),.string ((zba l0 x5_1).f1)],.int .i64 x1_1] rfl zq4 ?_;(with_reducible refine (laws_szPut.calls ((zba l0 x5_1).f0) ((zba l0 x5_1).f1) x1_1 t104 _ A6.out).mono ?_);rintro e w8 ⟨rfl,hb⟩;refine ⟨_,rfl,?_⟩;have n0_:=zz (ze zq2 hb);clear HB;have HB:=n0_;clear n0_;(try clear hb);(try clear hb2);(try clear hk);(try clear hi)))
       go_ret
       exact ⟨zq10,by repeat (first|(with_reducible first|exact HB.out|apply zg|apply zd|apply zk)|exact HB.out)⟩
      ·rw [if_neg c7] at H
       have c7b0:=decide_eq_false c7
       clear c7
       have H':=zz H
       clear H
       have p103:0≤(x5_1:Int):=of_decide_eq_true zq24
       have q103:x5_1<(l0.length:Int):=of_decide_eq_true zq24
       obtain ⟨ad103,e103,hx103_0,hx103_1⟩:=at_T140 HR0.out x5_1 p103 q103
       cases e103
       replace hx103_0:=(HB.out.cell (World.block_lt_of_cell? w _ hx103_0)).trans hx103_0
       replace hx103_1:=(HB.out.cell (World.block_lt_of_cell? w _ hx103_1)).trans hx103_1
       replace p103:=eq_true p103
       replace q103:=eq_true q103
       go_wp2_with (first|((with_reducible refine zo (f:=115) rfl ?_);refine zw (some 23) rfl rfl Try.func115 zq15 rfl #[.agg #[.int .i64 ((zba l0 x5_1).f0),.string ((zba l0 x5_1).f1)],.int .i64 x1_1] rfl zq4 ?_;(with_reducible refine (laws_szPut.calls ((zba l0 x5_1).f0) ((zba l0 x5_1).f1) x1_1 t104 _ A6.out).mono ?_);rintro e w9 ⟨rfl,hb⟩;refine ⟨_,rfl,?_⟩;have n0_:=zz (ze zq2 hb);clear HB;have HB:=n0_;clear n0_;(try clear hb);(try clear hb2);(try clear hk);(try clear hi)))
       go_roundg k1
       case measure=>have:=HK1.out;omega
       case rel=>exact ⟨(t104),(wrap64 (x5_1+1)),zq16,zq16,H',⟨zq95 HK1.out⟩,⟨by repeat (first|(with_reducible first|exact HB.out|apply zg|apply zd|apply zk)|exact HB.out)⟩⟩
     ·rw [if_neg c5] at H
      exact absurd H zq52
    ·rw [if_neg c4] at H
     have c4b0:=decide_eq_false c4
     clear c4
     obtain rfl:=Option.some.inj H
     go_wp2
     go_ret
     exact ⟨zq10,by repeat (first|(with_reducible first|exact HB.out|apply zg|apply zd|apply zk)|exact HB.out)⟩
def laws_szDisk.f (k:Nat) (l0_0:List ByteArray) (l0_1:List (S140)) (a1:Int):Option (Int):=(laws_szStringS.f k l0_0 a1).bind fun t106=>(if t106<0 then (some (-1)) else ((laws_szPutS.f k l0_1 t106).bind fun t107=>(if t107<0 then (some (-1)) else (some t107))))
theorem laws_szDisk.calls (k:Nat) (A0_0:Option Addr) (c0_0:Nat) (l0_0:List ByteArray) (A0_1:Option Addr) (c0_1:Nat) (l0_1:List (S140)) (a1:Int) (r:Int) (w:World) (hr0_0:Kd.C Kd.string w A0_0 l0_0.length l0_0) (hc0_0:l0_0.length≤c0_0) (hr0_1:Kd.C k140 w A0_1 l0_1.length l0_1) (hc0_1:l0_1.length≤c0_1) (h:laws_szDisk.f k l0_0 l0_1 a1=some r):
  Calls Try.prog 22 #[.agg #[.slice A0_0 l0_0.length c0_0,.slice A0_1 l0_1.length c0_1],.int .i64 a1] w fun e w'=>e= .returned (.int .i64 r)∧Below w.heap.size w w':=by
 have hu25:=Try.underlying25
 have HR0_0:=zz hr0_0
 have HC0_0:=zz hc0_0
 clear hr0_0 hc0_0
 have HR0_1:=zz hr0_1
 have HC0_1:=zz hc0_1
 clear hr0_1 hc0_1
 have HB:=zz (Below.refl w.heap.size w)
 have H:((laws_szStringS.f k l0_0 a1).bind fun t106=>(if t106<0 then (some (-1)) else ((laws_szPutS.f k l0_1 t106).bind fun t107=>(if t107<0 then (some (-1)) else (some t107)))))=some r:=h
 clear h
 replace H:=Option.bind_eq_some_iff.mp H
 obtain ⟨t106,A30,H⟩:=H
 replace H:(if t106<0 then (some (-1)) else ((laws_szPutS.f k l0_1 t106).bind fun t107=>(if t107<0 then (some (-1)) else (some t107))))=some r:=H
 have A3:=zz A30
 clear A30
 by_cases c4:t106<0
 ·rw [if_pos c4] at H
  have c4b0:=decide_eq_true c4
  clear c4
  obtain rfl:=Option.some.inj H
  go_enter Try.func22,Try.ntmps22
  go_wp2_with (first|((with_reducible refine zm (N:=2) rfl ?_);refine zq ?hg (N:=2) ?hd (cs:= #[.slice A0_0 l0_0.length c0_0,.slice A0_1 l0_1.length c0_1]) (t:=25) ?hr ?_;(case hd=>rfl);(case hg=>rfl);(case hr=>first|(go_simp;done)|(go_simp;rfl));intro gb105 hg w5 hbox hb;have n0_:=zz (ze zq2 hb);have n1_:=zz (hbox);have n2_:=zz ((by rw [hg];exact (zc zq2):w.heap.size≤gb105));have n3_:=zz ((by rw [hg];exact (zc zq2):w.heap.size≤gb105));clear HB;have HB:=n0_;have BK105:=n1_;have GW105:=n2_;have GE105:=n3_;clear n0_ n1_ n2_ n3_;clear hb hbox hg;have hcz6_0:w5.cell? ⟨gb105,0,none⟩=some (.slice A0_0 l0_0.length c0_0):=(zb BK105.out 0).trans rfl;have hcz6_1:w5.cell? ⟨gb105,1,none⟩=some (.slice A0_1 l0_1.length c0_1):=(zb BK105.out 1).trans rfl;have hfz6_0:=za BK105.out 0;have hfz6_1:=za BK105.out 1)|((with_reducible refine zo (f:=54) rfl ?_);refine zw (some 8) rfl rfl Try.func54 zq15 rfl #[.slice A0_0 l0_0.length c0_0,.int .i64 a1] rfl zq4 ?_;(with_reducible refine (laws_szStringS.calls k _ _ l0_0 a1 t106 _ ?side1 ?side2 A3.out).mono ?_);(case side1=>repeat (first|exact (Kd.C_below HR0_0.out HB.out)|(with_reducible refine Kd.C_alloc ?_ _)|(with_reducible refine Kd.C_drewN ?_ _)|(with_reducible refine Kd.C_drew ?_)));(case side2=>exact HC0_0.out);rintro e w' ⟨rfl,⟨nd,rfl⟩⟩;refine ⟨_,rfl,?_⟩))
  go_ret
  exact ⟨zq10,by repeat (first|(with_reducible first|exact HB.out|apply zg|apply zd|apply zk|refine zn ?_ GE105.out)|exact HB.out)⟩
 ·rw [if_neg c4] at H
  have c4b0:=decide_eq_false c4
  clear c4
  replace H:=Option.bind_eq_some_iff.mp H
  obtain ⟨t107,A70,H⟩:=H
  replace H:(if t107<0 then (some (-1)) else (some t107))=some r:=H
  have A7:=zz A70
  clear A70
  by_cases c8:t107<0
  ·rw [if_pos c8] at H
   have c8b0:=decide_eq_true c8
   clear c8
   obtain rfl:=Option.some.inj H
   go_enter Try.func22,Try.ntmps22
   go_wp2_with (first|((with_reducible refine zm (N:=2) rfl ?_);refine zq ?hg (N:=2) ?hd (cs:= #[.slice A0_0 l0_0.length c0_0,.slice A0_1 l0_1.length c0_1]) (t:=25) ?hr ?_;(case hd=>rfl);(case hg=>rfl);(case hr=>first|(go_simp;done)|(go_simp;rfl));intro gb105 hg w9 hbox hb;have n0_:=zz (ze zq2 hb);have n1_:=zz (hbox);have n2_:=zz ((by rw [hg];exact (zc zq2):w.heap.size≤gb105));have n3_:=zz ((by rw [hg];exact (zc zq2):w.heap.size≤gb105));clear HB;have HB:=n0_;have BK105:=n1_;have GW105:=n2_;have GE105:=n3_;clear n0_ n1_ n2_ n3_;clear hb hbox hg;have hcz10_0:w9.cell? ⟨gb105,0,none⟩=some (.slice A0_0 l0_0.length c0_0):=(zb BK105.out 0).trans rfl;have hcz10_1:w9.cell? ⟨gb105,1,none⟩=some (.slice A0_1 l0_1.length c0_1):=(zb BK105.out 1).trans rfl;have hfz10_0:=za BK105.out 0;have hfz10_1:=za BK105.out 1)|((with_reducible refine zo (f:=54) rfl ?_);refine zw (some 8) rfl rfl Try.func54 zq15 rfl #[.slice A0_0 l0_0.length c0_0,.int .i64 a1] rfl zq4 ?_;(with_reducible refine (laws_szStringS.calls k _ _ l0_0 a1 t106 _ ?side1 ?side2 A3.out).mono ?_);(case side1=>repeat (first|exact (Kd.C_below HR0_0.out HB.out)|(with_reducible refine Kd.C_alloc ?_ _)|(with_reducible refine Kd.C_drewN ?_ _)|(with_reducible refine Kd.C_drew ?_)));(case side2=>exact HC0_0.out);rintro e w' ⟨rfl,⟨nd,rfl⟩⟩;refine ⟨_,rfl,?_⟩)|((with_reducible refine zo (f:=62) rfl ?_);refine zw (some 14) rfl rfl Try.func62 zq15 rfl #[.slice A0_1 l0_1.length c0_1,.int .i64 t106] rfl zq4 ?_;(with_reducible refine (laws_szPutS.calls k _ _ l0_1 t106 t107 _ ?side1 ?side2 A7.out).mono ?_);(case side1=>repeat (first|exact (Kd.C_below HR0_1.out (zq3 GE105.out))|(with_reducible refine Kd.C_alloc ?_ _)|(with_reducible refine Kd.C_drewN ?_ _)|(with_reducible refine Kd.C_drew ?_)));(case side2=>exact HC0_1.out);rintro e w11 ⟨rfl,hb⟩;refine ⟨_,rfl,?_⟩;have n0_:=zz (zi (g:=gb105) (o:= .cells #[.slice A0_0 l0_0.length c0_0,.slice A0_1 l0_1.length c0_1] 25 (0,0)) (zq0 BK105.out) hb);have n1_:=zz (ze (zq3 GE105.out) hb);clear BK105;clear HB;have BK105:=n0_;have HB:=n1_;clear n0_ n1_;(try clear hb);(try clear hb2);(try clear hk);(try clear hi)))
   go_ret
   exact ⟨zq10,by repeat (first|(with_reducible first|exact HB.out|apply zg|apply zd|apply zk|refine zn ?_ GE105.out)|exact HB.out)⟩
  ·rw [if_neg c8] at H
   have c8b0:=decide_eq_false c8
   clear c8
   obtain rfl:=Option.some.inj H
   go_enter Try.func22,Try.ntmps22
   go_wp2_with (first|((with_reducible refine zm (N:=2) rfl ?_);refine zq ?hg (N:=2) ?hd (cs:= #[.slice A0_0 l0_0.length c0_0,.slice A0_1 l0_1.length c0_1]) (t:=25) ?hr ?_;(case hd=>rfl);(case hg=>rfl);(case hr=>first|(go_simp;done)|(go_simp;rfl));intro gb105 hg w12 hbox hb;have n0_:=zz (ze zq2 hb);have n1_:=zz (hbox);have n2_:=zz ((by rw [hg];exact (zc zq2):w.heap.size≤gb105));have n3_:=zz ((by rw [hg];exact (zc zq2):w.heap.size≤gb105));clear HB;have HB:=n0_;have BK105:=n1_;have GW105:=n2_;have GE105:=n3_;clear n0_ n1_ n2_ n3_;clear hb hbox hg;have hcz13_0:w12.cell? ⟨gb105,0,none⟩=some (.slice A0_0 l0_0.length c0_0):=(zb BK105.out 0).trans rfl;have hcz13_1:w12.cell? ⟨gb105,1,none⟩=some (.slice A0_1 l0_1.length c0_1):=(zb BK105.out 1).trans rfl;have hfz13_0:=za BK105.out 0;have hfz13_1:=za BK105.out 1)|((with_reducible refine zo (f:=54) rfl ?_);refine zw (some 8) rfl rfl Try.func54 zq15 rfl #[.slice A0_0 l0_0.length c0_0,.int .i64 a1] rfl zq4 ?_;(with_reducible refine (laws_szStringS.calls k _ _ l0_0 a1 t106 _ ?side1 ?side2 A3.out).mono ?_);(case side1=>repeat (first|exact (Kd.C_below HR0_0.out HB.out)|(with_reducible refine Kd.C_alloc ?_ _)|(with_reducible refine Kd.C_drewN ?_ _)|(with_reducible refine Kd.C_drew ?_)));(case side2=>exact HC0_0.out);rintro e w' ⟨rfl,⟨nd,rfl⟩⟩;refine ⟨_,rfl,?_⟩)|((with_reducible refine zo (f:=62) rfl ?_);refine zw (some 14) rfl rfl Try.func62 zq15 rfl #[.slice A0_1 l0_1.length c0_1,.int .i64 t106] rfl zq4 ?_;(with_reducible refine (laws_szPutS.calls k _ _ l0_1 t106 t107 _ ?side1 ?side2 A7.out).mono ?_);(case side1=>repeat (first|exact (Kd.C_below HR0_1.out (zq3 GE105.out))|(with_reducible refine Kd.C_alloc ?_ _)|(with_reducible refine Kd.C_drewN ?_ _)|(with_reducible refine Kd.C_drew ?_)));(case side2=>exact HC0_1.out);rintro e w14 ⟨rfl,hb⟩;refine ⟨_,rfl,?_⟩;have n0_:=zz (zi (g:=gb105) (o:= .cells #[.slice A0_0 l0_0.length c0_0,.slice A0_1 l0_1.length c0_1] 25 (0,0)) (zq0 BK105.out) hb);have n1_:=zz (ze (zq3 GE105.out) hb);clear BK105;clear HB;have BK105:=n0_;have HB:=n1_;clear n0_ n1_;(try clear hb);(try clear hb2);(try clear hk);(try clear hi)))
   go_ret
   exact ⟨zq10,by repeat (first|(with_reducible first|exact HB.out|apply zg|apply zd|apply zk|refine zn ?_ GE105.out)|exact HB.out)⟩
def laws_szIntS.f (l0:List Int) (a1:Int):Option (Int):=if (wrap64 (a1-(l0.length:Int)))<0 then (some (-1)) else (some (wrap64 (a1-(l0.length:Int))))
theorem laws_szIntS.calls (A0:Option Addr) (c0:Nat) (l0:List Int) (a1:Int) (r:Int) (w:World) (hr0:Kd.C (Kd.int .i64) w A0 l0.length l0) (hc0:l0.length≤c0) (h:laws_szIntS.f l0 a1=some r):
  Calls Try.prog 46 #[.slice A0 l0.length c0,.int .i64 a1] w fun e w'=>e= .returned (.int .i64 r)∧Drawn0 w w':=by
 have HR0:=zz hr0
 have HC0:=zz hc0
 clear hr0 hc0
 have H:(if (wrap64 (a1-(l0.length:Int)))<0 then (some (-1)) else (some (wrap64 (a1-(l0.length:Int)))))=some r:=h
 clear h
 by_cases c3:(wrap64 (a1-(l0.length:Int)))<0
 ·rw [if_pos c3] at H
  have c3b0:=decide_eq_true c3
  clear c3
  obtain rfl:=Option.some.inj H
  go_enter Try.func46,Try.ntmps46
  go_wp2
  go_ret
  exact ⟨zq16,by repeat (first|exact Drawn0.refl _|apply Drawn0.step)⟩
 ·rw [if_neg c3] at H
  have c3b0:=decide_eq_false c3
  clear c3
  obtain rfl:=Option.some.inj H
  go_enter Try.func46,Try.ntmps46
  go_wp2
  go_ret
  exact ⟨zq16,by repeat (first|exact Drawn0.refl _|apply Drawn0.step)⟩
def laws_szWork.f (k:Nat) (l0_0:List ByteArray) (l0_1:List (S140)) (a0_2:Int) (l0_3:List Int) (l0_4:List Int) (l0_5:List Int) (a1:Int):Option (Int):=(laws_szDisk.f k l0_0 l0_1 a1).bind fun t109=>(if t109<0 then (some (-1)) else ((laws_szIntS.f l0_3 t109).bind fun t110=>(if t110<0 then (some (-1)) else ((laws_szIntS.f l0_4 t110).bind fun t111=>(if t111<0 then (some (-1)) else ((laws_szIntS.f l0_5 t111).bind fun t112=>(if t112<0 then (some (-1)) else (some t112))))))))
theorem laws_szWork.calls (k:Nat) (A0_0:Option Addr) (c0_0:Nat) (l0_0:List ByteArray) (A0_1:Option Addr) (c0_1:Nat) (l0_1:List (S140)) (a0_2:Int) (A0_3:Option Addr) (c0_3:Nat) (l0_3:List Int) (A0_4:Option Addr) (c0_4:Nat) (l0_4:List Int) (A0_5:Option Addr) (c0_5:Nat) (l0_5:List Int) (a1:Int) (r:Int) (w:World) (hr0_0:Kd.C Kd.string w A0_0 l0_0.length l0_0) (hc0_0:l0_0.length≤c0_0) (hr0_1:Kd.C k140 w A0_1 l0_1.length l0_1) (hc0_1:l0_1.length≤c0_1) (hr0_3:Kd.C (Kd.int .i64) w A0_3 l0_3.length l0_3) (hc0_3:l0_3.length≤c0_3) (hr0_4:Kd.C (Kd.int .i64) w A0_4 l0_4.length l0_4) (hc0_4:l0_4.length≤c0_4) (hr0_5:Kd.C (Kd.int .i64) w A0_5 l0_5.length l0_5) (hc0_5:l0_5.length≤c0_5) (h:laws_szWork.f k l0_0 l0_1 a0_2 l0_3 l0_4 l0_5 a1=some r):
  Calls Try.prog 9 #[.agg #[.slice A0_0 l0_0.length c0_0,.slice A0_1 l0_1.length c0_1,.int .i64 a0_2,.slice A0_3 l0_3.length c0_3,.slice A0_4 l0_4.length c0_4,.slice A0_5 l0_5.length c0_5],.int .i64 a1] w fun e w'=>e= .returned (.int .i64 r)∧Below w.heap.size w w':=by
 have hu28:=Try.underlying28
 have hu25:=Try.underlying25
 have HR0_0:=zz hr0_0
 have HC0_0:=zz hc0_0
 clear hr0_0 hc0_0
 have HR0_1:=zz hr0_1
 have HC0_1:=zz hc0_1
 clear hr0_1 hc0_1
 have HR0_3:=zz hr0_3
 have HC0_3:=zz hc0_3
 clear hr0_3 hc0_3
 have HR0_4:=zz hr0_4
 have HC0_4:=zz hc0_4
 clear hr0_4 hc0_4
 have HR0_5:=zz hr0_5
 have HC0_5:=zz hc0_5
 clear hr0_5 hc0_5
 have HB:=zz (Below.refl w.heap.size w)
 have H:((laws_szDisk.f k l0_0 l0_1 a1).bind fun t109=>(if t109<0 then (some (-1)) else ((laws_szIntS.f l0_3 t109).bind fun t110=>(if t110<0 then (some (-1)) else ((laws_szIntS.f l0_4 t110).bind fun t111=>(if t111<0 then (some (-1)) else ((laws_szIntS.f l0_5 t111).bind fun t112=>(if t112<0 then (some (-1)) else (some t112)))))))))=some r:=h
 clear h
 replace H:=Option.bind_eq_some_iff.mp H
 obtain ⟨t109,A30,H⟩:=H
 replace H:(if t109<0 then (some (-1)) else ((laws_szIntS.f l0_3 t109).bind fun t110=>(if t110<0 then (some (-1)) else ((laws_szIntS.f l0_4 t110).bind fun t111=>(if t111<0 then (some (-1)) else ((laws_szIntS.f l0_5 t111).bind fun t112=>(if t112<0 then (some (-1)) else (some t112))))))))=some r:=H
 have A3:=zz A30
 clear A30
 by_cases c4:t109<0
 ·rw [if_pos c4] at H
  have c4b0:=decide_eq_true c4
  clear c4
  obtain rfl:=Option.some.inj H
  go_enter Try.func9,Try.ntmps9
  go_wp2_with (first|((with_reducible refine zm (N:=2) rfl ?_);refine zq ?hg (N:=2) ?hd (cs:= #[.slice A0_0 l0_0.length c0_0,.slice A0_1 l0_1.length c0_1,.int .i64 a0_2,.slice A0_3 l0_3.length c0_3,.slice A0_4 l0_4.length c0_4,.slice A0_5 l0_5.length c0_5]) (t:=28) ?hr ?_;(case hd=>rfl);(case hg=>rfl);(case hr=>first|(go_simp;done)|(go_simp;rfl));intro gb108 hg w5 hbox hb;have n0_:=zz (ze zq2 hb);have n1_:=zz (hbox);have n2_:=zz ((by rw [hg];exact (zc zq2):w.heap.size≤gb108));have n3_:=zz ((by rw [hg];exact (zc zq2):w.heap.size≤gb108));clear HB;have HB:=n0_;have BK108:=n1_;have GW108:=n2_;have GE108:=n3_;clear n0_ n1_ n2_ n3_;clear hb hbox hg;have hcz6_0:w5.cell? ⟨gb108,0,none⟩=some (.slice A0_0 l0_0.length c0_0):=(zb BK108.out 0).trans rfl;have hcz6_1:w5.cell? ⟨gb108,1,none⟩=some (.slice A0_1 l0_1.length c0_1):=(zb BK108.out 1).trans rfl;have hcz6_2:w5.cell? ⟨gb108,2,none⟩=some (.int .i64 a0_2):=(zb BK108.out 2).trans rfl;have hcz6_3:w5.cell? ⟨gb108,3,none⟩=some (.slice A0_3 l0_3.length c0_3):=(zb BK108.out 3).trans rfl;have hcz6_4:w5.cell? ⟨gb108,4,none⟩=some (.slice A0_4 l0_4.length c0_4):=(zb BK108.out 4).trans rfl;have hcz6_5:w5.cell? ⟨gb108,5,none⟩=some (.slice A0_5 l0_5.length c0_5):=(zb BK108.out 5).trans rfl;have hfz6_0:=za BK108.out 0;have hfz6_1:=za BK108.out 1;have hfz6_2:=za BK108.out 2;have hfz6_3:=za BK108.out 3;have hfz6_4:=za BK108.out 4;have hfz6_5:=za BK108.out 5)|((with_reducible refine zo (f:=22) rfl ?_);refine zw (some 8) rfl rfl Try.func22 zq15 rfl #[.agg #[.slice A0_0 l0_0.length c0_0,.slice A0_1 l0_1.length c0_1],.int .i64 a1] rfl zq4 ?_;(with_reducible refine (laws_szDisk.calls k _ _ l0_0 _ _ l0_1 a1 t109 _ ?side1 ?side2 ?side3 ?side4 A3.out).mono ?_);(case side1=>repeat (first|exact (Kd.C_below HR0_0.out HB.out)|(with_reducible refine Kd.C_alloc ?_ _)|(with_reducible refine Kd.C_drewN ?_ _)|(with_reducible refine Kd.C_drew ?_)));(case side2=>exact HC0_0.out);(case side3=>repeat (first|exact (Kd.C_below HR0_1.out HB.out)|(with_reducible refine Kd.C_alloc ?_ _)|(with_reducible refine Kd.C_drewN ?_ _)|(with_reducible refine Kd.C_drew ?_)));(case side4=>exact HC0_1.out);rintro e w7 ⟨rfl,hb⟩;refine ⟨_,rfl,?_⟩;have n0_:=zz (zi (g:=gb108) (o:= .cells #[.slice A0_0 l0_0.length c0_0,.slice A0_1 l0_1.length c0_1,.int .i64 a0_2,.slice A0_3 l0_3.length c0_3,.slice A0_4 l0_4.length c0_4,.slice A0_5 l0_5.length c0_5] 28 (0,0)) (zq0 BK108.out) hb);have n1_:=zz (ze (zq3 GE108.out) hb);clear BK108;clear HB;have BK108:=n0_;have HB:=n1_;clear n0_ n1_;(try clear hb);(try clear hb2);(try clear hk);(try clear hi)))
  go_ret
  exact ⟨zq10,by repeat (first|(with_reducible first|exact HB.out|apply zg|apply zd|apply zk|refine zn ?_ GE108.out)|exact HB.out)⟩
 ·rw [if_neg c4] at H
  have c4b0:=decide_eq_false c4
  clear c4
  replace H:=Option.bind_eq_some_iff.mp H
  obtain ⟨t110,A80,H⟩:=H
  replace H:(if t110<0 then (some (-1)) else ((laws_szIntS.f l0_4 t110).bind fun t111=>(if t111<0 then (some (-1)) else ((laws_szIntS.f l0_5 t111).bind fun t112=>(if t112<0 then (some (-1)) else (some t112))))))=some r:=H
  have A8:=zz A80
  clear A80
  by_cases c9:t110<0
  ·rw [if_pos c9] at H
   have c9b0:=decide_eq_true c9
   clear c9
   obtain rfl:=Option.some.inj H
   go_enter Try.func9,Try.ntmps9
   go_wp2_with (first|((with_reducible refine zm (N:=2) rfl ?_);refine zq ?hg (N:=2) ?hd (cs:= #[.slice A0_0 l0_0.length c0_0,.slice A0_1 l0_1.length c0_1,.int .i64 a0_2,.slice A0_3 l0_3.length c0_3,.slice A0_4 l0_4.length c0_4,.slice A0_5 l0_5.length c0_5]) (t:=28) ?hr ?_;(case hd=>rfl);(case hg=>rfl);(case hr=>first|(go_simp;done)|(go_simp;rfl));intro gb108 hg w10 hbox hb;have n0_:=zz (ze zq2 hb);have n1_:=zz (hbox);have n2_:=zz ((by rw [hg];exact (zc zq2):w.heap.size≤gb108));have n3_:=zz ((by rw [hg];exact (zc zq2):w.heap.size≤gb108));clear HB;have HB:=n0_;have BK108:=n1_;have GW108:=n2_;have GE108:=n3_;clear n0_ n1_ n2_ n3_;clear hb hbox hg;have hcz11_0:w10.cell? ⟨gb108,0,none⟩=some (.slice A0_0 l0_0.length c0_0):=(zb BK108.out 0).trans rfl;have hcz11_1:w10.cell? ⟨gb108,1,none⟩=some (.slice A0_1 l0_1.length c0_1):=(zb BK108.out 1).trans rfl;have hcz11_2:w10.cell? ⟨gb108,2,none⟩=some (.int .i64 a0_2):=(zb BK108.out 2).trans rfl;have hcz11_3:w10.cell? ⟨gb108,3,none⟩=some (.slice A0_3 l0_3.length c0_3):=(zb BK108.out 3).trans rfl;have hcz11_4:w10.cell? ⟨gb108,4,none⟩=some (.slice A0_4 l0_4.length c0_4):=(zb BK108.out 4).trans rfl;have hcz11_5:w10.cell? ⟨gb108,5,none⟩=some (.slice A0_5 l0_5.length c0_5):=(zb BK108.out 5).trans rfl;have hfz11_0:=za BK108.out 0;have hfz11_1:=za BK108.out 1;have hfz11_2:=za BK108.out 2;have hfz11_3:=za BK108.out 3;have hfz11_4:=za BK108.out 4;have hfz11_5:=za BK108.out 5)|((with_reducible refine zo (f:=22) rfl ?_);refine zw (some 8) rfl rfl Try.func22 zq15 rfl #[.agg #[.slice A0_0 l0_0.length c0_0,.slice A0_1 l0_1.length c0_1],.int .i64 a1] rfl zq4 ?_;(with_reducible refine (laws_szDisk.calls k _ _ l0_0 _ _ l0_1 a1 t109 _ ?side1 ?side2 ?side3 ?side4 A3.out).mono ?_);(case side1=>repeat (first|exact (Kd.C_below HR0_0.out HB.out)|(with_reducible refine Kd.C_alloc ?_ _)|(with_reducible refine Kd.C_drewN ?_ _)|(with_reducible refine Kd.C_drew ?_)));(case side2=>exact HC0_0.out);(case side3=>repeat (first|exact (Kd.C_below HR0_1.out HB.out)|(with_reducible refine Kd.C_alloc ?_ _)|(with_reducible refine Kd.C_drewN ?_ _)|(with_reducible refine Kd.C_drew ?_)));(case side4=>exact HC0_1.out);rintro e w12 ⟨rfl,hb⟩;refine ⟨_,rfl,?_⟩;have n0_:=zz (zi (g:=gb108) (o:= .cells #[.slice A0_0 l0_0.length c0_0,.slice A0_1 l0_1.length c0_1,.int .i64 a0_2,.slice A0_3 l0_3.length c0_3,.slice A0_4 l0_4.length c0_4,.slice A0_5 l0_5.length c0_5] 28 (0,0)) (zq0 BK108.out) hb);have n1_:=zz (ze (zq3 GE108.out) hb);clear BK108;clear HB;have BK108:=n0_;have HB:=n1_;clear n0_ n1_;(try clear hb);(try clear hb2);(try clear hk);(try clear hi);have hcz13_0:w12.cell? ⟨gb108,0,none⟩=some (.slice A0_0 l0_0.length c0_0):=(zb BK108.out 0).trans rfl;have hcz13_1:w12.cell? ⟨gb108,1,none⟩=some (.slice A0_1 l0_1.length c0_1):=(zb BK108.out 1).trans rfl;have hcz13_2:w12.cell? ⟨gb108,2,none⟩=some (.int .i64 a0_2):=(zb BK108.out 2).trans rfl;have hcz13_3:w12.cell? ⟨gb108,3,none⟩=some (.slice A0_3 l0_3.length c0_3):=(zb BK108.out 3).trans rfl;have hcz13_4:w12.cell? ⟨gb108,4,none⟩=some (.slice A0_4 l0_4.length c0_4):=(zb BK108.out 4).trans rfl;have hcz13_5:w12.cell? ⟨gb108,5,none⟩=some (.slice A0_5 l0_5.length c0_5):=(zb BK108.out 5).trans rfl;have hfz13_0:=za BK108.out 0;have hfz13_1:=za BK108.out 1;have hfz13_2:=za BK108.out 2;have hfz13_3:=za BK108.out 3;have hfz13_4:=za BK108.out 4;have hfz13_5:=za BK108.out 5)|((with_reducible refine zo (f:=46) rfl ?_);refine zw (some 14) rfl rfl Try.func46 zq15 rfl #[.slice A0_3 l0_3.length c0_3,.int .i64 t109] rfl zq4 ?_;(with_reducible refine (laws_szIntS.calls _ _ l0_3 t109 t110 _ ?side1 ?side2 A8.out).mono ?_);(case side1=>repeat (first|exact (Kd.C_below HR0_3.out HB.out)|(with_reducible refine Kd.C_alloc ?_ _)|(with_reducible refine Kd.C_drewN ?_ _)|(with_reducible refine Kd.C_drew ?_)));(case side2=>exact HC0_3.out);rintro e w' ⟨rfl,⟨nd,rfl⟩⟩;refine ⟨_,rfl,?_⟩))
   go_ret
   exact ⟨zq10,by repeat (first|(with_reducible first|exact HB.out|apply zg|apply zd|apply zk|refine zn ?_ GE108.out)|exact HB.out)⟩
  ·rw [if_neg c9] at H
   have c9b0:=decide_eq_false c9
   clear c9
   replace H:=Option.bind_eq_some_iff.mp H
   obtain ⟨t111,A140,H⟩:=H
   replace H:(if t111<0 then (some (-1)) else ((laws_szIntS.f l0_5 t111).bind fun t112=>(if t112<0 then (some (-1)) else (some t112))))=some r:=H
   have A14:=zz A140
   clear A140
   by_cases c15:t111<0
   ·rw [if_pos c15] at H
    have c15b0:=decide_eq_true c15
    clear c15
    obtain rfl:=Option.some.inj H
    go_enter Try.func9,Try.ntmps9
    go_wp2_with (first|((with_reducible refine zm (N:=2) rfl ?_);refine zq ?hg (N:=2) ?hd (cs:= #[.slice A0_0 l0_0.length c0_0,.slice A0_1 l0_1.length c0_1,.int .i64 a0_2,.slice A0_3 l0_3.length c0_3,.slice A0_4 l0_4.length c0_4,.slice A0_5 l0_5.length c0_5]) (t:=28) ?hr ?_;(case hd=>rfl);(case hg=>rfl);(case hr=>first|(go_simp;done)|(go_simp;rfl));intro gb108 hg w16 hbox hb;have n0_:=zz (ze zq2 hb);have n1_:=zz (hbox);have n2_:=zz ((by rw [hg];exact (zc zq2):w.heap.size≤gb108));have n3_:=zz ((by rw [hg];exact (zc zq2):w.heap.size≤gb108));clear HB;have HB:=n0_;have BK108:=n1_;have GW108:=n2_;have GE108:=n3_;clear n0_ n1_ n2_ n3_;clear hb hbox hg;have hcz17_0:w16.cell? ⟨gb108,0,none⟩=some (.slice A0_0 l0_0.length c0_0):=(zb BK108.out 0).trans rfl;have hcz17_1:w16.cell? ⟨gb108,1,none⟩=some (.slice A0_1 l0_1.length c0_1):=(zb BK108.out 1).trans rfl;have hcz17_2:w16.cell? ⟨gb108,2,none⟩=some (.int .i64 a0_2):=(zb BK108.out 2).trans rfl;have hcz17_3:w16.cell? ⟨gb108,3,none⟩=some (.slice A0_3 l0_3.length c0_3):=(zb BK108.out 3).trans rfl;have hcz17_4:w16.cell? ⟨gb108,4,none⟩=some (.slice A0_4 l0_4.length c0_4):=(zb BK108.out 4).trans rfl;have hcz17_5:w16.cell? ⟨gb108,5,none⟩=some (.slice A0_5 l0_5.length c0_5):=(zb BK108.out 5).trans rfl;have hfz17_0:=za BK108.out 0;have hfz17_1:=za BK108.out 1;have hfz17_2:=za BK108.out 2;have hfz17_3:=za BK108.out 3;have hfz17_4:=za BK108.out 4;have hfz17_5:=za BK108.out 5)|((with_reducible refine zo (f:=22) rfl ?_);refine zw (some 8) rfl rfl Try.func22 zq15 rfl #[.agg #[.slice A0_0 l0_0.length c0_0,.slice A0_1 l0_1.length c0_1],.int .i64 a1] rfl zq4 ?_;(with_reducible refine (laws_szDisk.calls k _ _ l0_0 _ _ l0_1 a1 t109 _ ?side1 ?side2 ?side3 ?side4 A3.out).mono ?_);(case side1=>repeat (first|exact (Kd.C_below HR0_0.out HB.out)|(with_reducible refine Kd.C_alloc ?_ _)|(with_reducible refine Kd.C_drewN ?_ _)|(with_reducible refine Kd.C_drew ?_)));(case side2=>exact HC0_0.out);(case side3=>repeat (first|exact (Kd.C_below HR0_1.out HB.out)|(with_reducible refine Kd.C_alloc ?_ _)|(with_reducible refine Kd.C_drewN ?_ _)|(with_reducible refine Kd.C_drew ?_)));(case side4=>exact HC0_1.out);rintro e w18 ⟨rfl,hb⟩;refine ⟨_,rfl,?_⟩;have n0_:=zz (zi (g:=gb108) (o:= .cells #[.slice A0_0 l0_0.length c0_0,.slice A0_1 l0_1.length c0_1,.int .i64 a0_2,.slice A0_3 l0_3.length c0_3,.slice A0_4 l0_4.length c0_4,.slice A0_5 l0_5.length c0_5] 28 (0,0)) (zq0 BK108.out) hb);have n1_:=zz (ze (zq3 GE108.out) hb);clear BK108;clear HB;have BK108:=n0_;have HB:=n1_;clear n0_ n1_;(try clear hb);(try clear hb2);(try clear hk);(try clear hi);have hcz19_0:w18.cell? ⟨gb108,0,none⟩=some (.slice A0_0 l0_0.length c0_0):=(zb BK108.out 0).trans rfl;have hcz19_1:w18.cell? ⟨gb108,1,none⟩=some (.slice A0_1 l0_1.length c0_1):=(zb BK108.out 1).trans rfl;have hcz19_2:w18.cell? ⟨gb108,2,none⟩=some (.int .i64 a0_2):=(zb BK108.out 2).trans rfl;have hcz19_3:w18.cell? ⟨gb108,3,none⟩=some (.slice A0_3 l0_3.length c0_3):=(zb BK108.out 3).trans rfl;have hcz19_4:w18.cell? ⟨gb108,4,none⟩=some (.slice A0_4 l0_4.length c0_4):=(zb BK108.out 4).trans rfl;have hcz19_5:w18.cell? ⟨gb108,5,none⟩=some (.slice A0_5 l0_5.length c0_5):=(zb BK108.out 5).trans rfl;have hfz19_0:=za BK108.out 0;have hfz19_1:=za BK108.out 1;have hfz19_2:=za BK108.out 2;have hfz19_3:=za BK108.out 3;have hfz19_4:=za BK108.out 4;have hfz19_5:=za BK108.out 5)|((with_reducible refine zo (f:=46) rfl ?_);refine zw (some 14) rfl rfl Try.func46 zq15 rfl #[.slice A0_3 l0_3.length c0_3,.int .i64 t109] rfl zq4 ?_;(with_reducible refine (laws_szIntS.calls _ _ l0_3 t109 t110 _ ?side1 ?side2 A8.out).mono ?_);(case side1=>repeat (first|exact (Kd.C_below HR0_3.out HB.out)|(with_reducible refine Kd.C_alloc ?_ _)|(with_reducible refine Kd.C_drewN ?_ _)|(with_reducible refine Kd.C_drew ?_)));(case side2=>exact HC0_3.out);rintro e w' ⟨rfl,⟨nd,rfl⟩⟩;refine ⟨_,rfl,?_⟩)|((with_reducible refine zo (f:=46) rfl ?_);refine zw (some 20) rfl rfl Try.func46 zq15 rfl #[.slice A0_4 l0_4.length c0_4,.int .i64 t110] rfl zq4 ?_;(with_reducible refine (laws_szIntS.calls _ _ l0_4 t110 t111 _ ?side1 ?side2 A14.out).mono ?_);(case side1=>repeat (first|exact (Kd.C_below HR0_4.out (zq3 GE108.out))|(with_reducible refine Kd.C_alloc ?_ _)|(with_reducible refine Kd.C_drewN ?_ _)|(with_reducible refine Kd.C_drew ?_)));(case side2=>exact HC0_4.out);rintro e w' ⟨rfl,⟨nd,rfl⟩⟩;refine ⟨_,rfl,?_⟩))
    go_ret
    exact ⟨zq10,by repeat (first|(with_reducible first|exact HB.out|apply zg|apply zd|apply zk|refine zn ?_ GE108.out)|exact HB.out)⟩
   ·rw [if_neg c15] at H
    have c15b0:=decide_eq_false c15
    clear c15
    replace H:=Option.bind_eq_some_iff.mp H
    obtain ⟨t112,A200,H⟩:=H
    replace H:(if t112<0 then (some (-1)) else (some t112))=some r:=H
    have A20:=zz A200
    clear A200
    by_cases c21:t112<0
    ·rw [if_pos c21] at H
     have c21b0:=decide_eq_true c21
     clear c21
     obtain rfl:=Option.some.inj H
     go_enter Try.func9,Try.ntmps9
     go_wp2_with (first|((with_reducible refine zm (N:=2) rfl ?_);refine zq ?hg (N:=2) ?hd (cs:= #[.slice A0_0 l0_0.length c0_0,.slice A0_1 l0_1.length c0_1,.int .i64 a0_2,.slice A0_3 l0_3.length c0_3,.slice A0_4 l0_4.length c0_4,.slice A0_5 l0_5.length c0_5]) (t:=28) ?hr ?_;(case hd=>rfl);(case hg=>rfl);(case hr=>first|(go_simp;done)|(go_simp;rfl));intro gb108 hg w22 hbox hb;have n0_:=zz (ze zq2 hb);have n1_:=zz (hbox);have n2_:=zz ((by rw [hg];exact (zc zq2):w.heap.size≤gb108));have n3_:=zz ((by rw [hg];exact (zc zq2):w.heap.size≤gb108));clear HB;have HB:=n0_;have BK108:=n1_;have GW108:=n2_;have GE108:=n3_;clear n0_ n1_ n2_ n3_;clear hb hbox hg;have hcz23_0:w22.cell? ⟨gb108,0,none⟩=some (.slice A0_0 l0_0.length c0_0):=(zb BK108.out 0).trans rfl;have hcz23_1:w22.cell? ⟨gb108,1,none⟩=some (.slice A0_1 l0_1.length c0_1):=(zb BK108.out 1).trans rfl;have hcz23_2:w22.cell? ⟨gb108,2,none⟩=some (.int .i64 a0_2):=(zb BK108.out 2).trans rfl;have hcz23_3:w22.cell? ⟨gb108,3,none⟩=some (.slice A0_3 l0_3.length c0_3):=(zb BK108.out 3).trans rfl;have hcz23_4:w22.cell? ⟨gb108,4,none⟩=some (.slice A0_4 l0_4.length c0_4):=(zb BK108.out 4).trans rfl;have hcz23_5:w22.cell? ⟨gb108,5,none⟩=some (.slice A0_5 l0_5.length c0_5):=(zb BK108.out 5).trans rfl;have hfz23_0:=za BK108.out 0;have hfz23_1:=za BK108.out 1;have hfz23_2:=za BK108.out 2;have hfz23_3:=za BK108.out 3;have hfz23_4:=za BK108.out 4;have hfz23_5:=za BK108.out 5)|((with_reducible refine zo (f:=22) rfl ?_);refine zw (some 8) rfl rfl Try.func22 zq15 rfl #[.agg #[.slice A0_0 l0_0.length c0_0,.slice A0_1 l0_1.length c0_1],.int .i64 a1] rfl zq4 ?_;(with_reducible refine (laws_szDisk.calls k _ _ l0_0 _ _ l0_1 a1 t109 _ ?side1 ?side2 ?side3 ?side4 A3.out).mono ?_);(case side1=>repeat (first|exact (Kd.C_below HR0_0.out HB.out)|(with_reducible refine Kd.C_alloc ?_ _)|(with_reducible refine Kd.C_drewN ?_ _)|(with_reducible refine Kd.C_drew ?_)));(case side2=>exact HC0_0.out);(case side3=>repeat (first|exact (Kd.C_below HR0_1.out HB.out)|(with_reducible refine Kd.C_alloc ?_ _)|(with_reducible refine Kd.C_drewN ?_ _)|(with_reducible refine Kd.C_drew ?_)));(case side4=>exact HC0_1.out);rintro e w24 ⟨rfl,hb⟩;refine ⟨_,rfl,?_⟩;have n0_:=zz (zi (g:=gb108) (o:= .cells #[.slice A0_0 l0_0.length c0_0,.slice A0_1 l0_1.length c0_1,.int .i64 a0_2,.slice A0_3 l0_3.length c0_3,.slice A0_4 l0_4.length c0_4,.slice A0_5 l0_5.length c0_5] 28 (0,0)) (zq0 BK108.out) hb);have n1_:=zz (ze (zq3 GE108.out) hb);clear BK108;clear HB;have BK108:=n0_;have HB:=n1_;clear n0_ n1_;(try clear hb);(try clear hb2);(try clear hk);(try clear hi);have hcz25_0:w24.cell? ⟨gb108,0,none⟩=some (.slice A0_0 l0_0.length c0_0):=(zb BK108.out 0).trans rfl;have hcz25_1:w24.cell? ⟨gb108,1,none⟩=some (.slice A0_1 l0_1.length c0_1):=(zb BK108.out 1).trans rfl;have hcz25_2:w24.cell? ⟨gb108,2,none⟩=some (.int .i64 a0_2):=(zb BK108.out 2).trans rfl;have hcz25_3:w24.cell? ⟨gb108,3,none⟩=some (.slice A0_3 l0_3.length c0_3):=(zb BK108.out 3).trans rfl;have hcz25_4:w24.cell? ⟨gb108,4,none⟩=some (.slice A0_4 l0_4.length c0_4):=(zb BK108.out 4).trans rfl;have hcz25_5:w24.cell? ⟨gb108,5,none⟩=some (.slice A0_5 l0_5.length c0_5):=(zb BK108.out 5).trans rfl;have hfz25_0:=za BK108.out 0;have hfz25_1:=za BK108.out 1;have hfz25_2:=za BK108.out 2;have hfz25_3:=za BK108.out 3;have hfz25_4:=za BK108.out 4;have hfz25_5:=za BK108.out 5)|((with_reducible refine zo (f:=46) rfl ?_);refine zw (some 14) rfl rfl Try.func46 zq15 rfl #[.slice A0_3 l0_3.length c0_3,.int .i64 t109] rfl zq4 ?_;(with_reducible refine (laws_szIntS.calls _ _ l0_3 t109 t110 _ ?side1 ?side2 A8.out).mono ?_);(case side1=>repeat (first|exact (Kd.C_below HR0_3.out HB.out)|(with_reducible refine Kd.C_alloc ?_ _)|(with_reducible refine Kd.C_drewN ?_ _)|(with_reducible refine Kd.C_drew ?_)));(case side2=>exact HC0_3.out);rintro e w' ⟨rfl,⟨nd,rfl⟩⟩;refine ⟨_,rfl,?_⟩)|((with_reducible refine zo (f:=46) rfl ?_);refine zw (some 20) rfl rfl Try.func46 zq15 rfl #[.slice A0_4 l0_4.length c0_4,.int .i64 t110] rfl zq4 ?_;(with_reducible refine (laws_szIntS.calls _ _ l0_4 t110 t111 _ ?side1 ?side2 A14.out).mono ?_);(case side1=>repeat (first|exact (Kd.C_below HR0_4.out (zq3 GE108.out))|(with_reducible refine Kd.C_alloc ?_ _)|(with_reducible refine Kd.C_drewN ?_ _)|(with_reducible refine Kd.C_drew ?_)));(case side2=>exact HC0_4.out);rintro e w' ⟨rfl,⟨nd,rfl⟩⟩;refine ⟨_,rfl,?_⟩)|((with_reducible refine zo (f:=46) rfl ?_);refine zw (some 26) rfl rfl Try.func46 zq15 rfl #[.slice A0_5 l0_5.length c0_5,.int .i64 t111] rfl zq4 ?_;(with_reducible refine (laws_szIntS.calls _ _ l0_5 t111 t112 _ ?side1 ?side2 A20.out).mono ?_);(case side1=>repeat (first|exact (Kd.C_below HR0_5.out (zq3 GE108.out))|(with_reducible refine Kd.C_alloc ?_ _)|(with_reducible refine Kd.C_drewN ?_ _)|(with_reducible refine Kd.C_drew ?_)));(case side2=>exact HC0_5.out);rintro e w' ⟨rfl,⟨nd,rfl⟩⟩;refine ⟨_,rfl,?_⟩))
     go_ret
     exact ⟨zq10,by repeat (first|(with_reducible first|exact HB.out|apply zg|apply zd|apply zk|refine zn ?_ GE108.out)|exact HB.out)⟩
    ·rw [if_neg c21] at H
     have c21b0:=decide_eq_false c21
     clear c21
     obtain rfl:=Option.some.inj H
     go_enter Try.func9,Try.ntmps9
     go_wp2_with (first|((with_reducible refine zm (N:=2) rfl ?_);refine zq ?hg (N:=2) ?hd (cs:= #[.slice A0_0 l0_0.length c0_0,.slice A0_1 l0_1.length c0_1,.int .i64 a0_2,.slice A0_3 l0_3.length c0_3,.slice A0_4 l0_4.length c0_4,.slice A0_5 l0_5.length c0_5]) (t:=28) ?hr ?_;(case hd=>rfl);(case hg=>rfl);(case hr=>first|(go_simp;done)|(go_simp;rfl));intro gb108 hg w26 hbox hb;have n0_:=zz (ze zq2 hb);have n1_:=zz (hbox);have n2_:=zz ((by rw [hg];exact (zc zq2):w.heap.size≤gb108));have n3_:=zz ((by rw [hg];exact (zc zq2):w.heap.size≤gb108));clear HB;have HB:=n0_;have BK108:=n1_;have GW108:=n2_;have GE108:=n3_;clear n0_ n1_ n2_ n3_;clear hb hbox hg;have hcz27_0:w26.cell? ⟨gb108,0,none⟩=some (.slice A0_0 l0_0.length c0_0):=(zb BK108.out 0).trans rfl;have hcz27_1:w26.cell? ⟨gb108,1,none⟩=some (.slice A0_1 l0_1.length c0_1):=(zb BK108.out 1).trans rfl;have hcz27_2:w26.cell? ⟨gb108,2,none⟩=some (.int .i64 a0_2):=(zb BK108.out 2).trans rfl;have hcz27_3:w26.cell? ⟨gb108,3,none⟩=some (.slice A0_3 l0_3.length c0_3):=(zb BK108.out 3).trans rfl;have hcz27_4:w26.cell? ⟨gb108,4,none⟩=some (.slice A0_4 l0_4.length c0_4):=(zb BK108.out 4).trans rfl;have hcz27_5:w26.cell? ⟨gb108,5,none⟩=some (.slice A0_5 l0_5.length c0_5):=(zb BK108.out 5).trans rfl;have hfz27_0:=za BK108.out 0;have hfz27_1:=za BK108.out 1;have hfz27_2:=za BK108.out 2;have hfz27_3:=za BK108.out 3;have hfz27_4:=za BK108.out 4;have hfz27_5:=za BK108.out 5)|((with_reducible refine zo (f:=22) rfl ?_);refine zw (some 8) rfl rfl Try.func22 zq15 rfl #[.agg #[.slice A0_0 l0_0.length c0_0,.slice A0_1 l0_1.length c0_1],.int .i64 a1] rfl zq4 ?_;(with_reducible refine (laws_szDisk.calls k _ _ l0_0 _ _ l0_1 a1 t109 _ ?side1 ?side2 ?side3 ?side4 A3.out).mono ?_);(case side1=>repeat (first|exact (Kd.C_below HR0_0.out HB.out)|(with_reducible refine Kd.C_alloc ?_ _)|(with_reducible refine Kd.C_drewN ?_ _)|(with_reducible refine Kd.C_drew ?_)));(case side2=>exact HC0_0.out);(case side3=>repeat (first|exact (Kd.C_below HR0_1.out HB.out)|(with_reducible refine Kd.C_alloc ?_ _)|(with_reducible refine Kd.C_drewN ?_ _)|(with_reducible refine Kd.C_drew ?_)));(case side4=>exact HC0_1.out);rintro e w28 ⟨rfl,hb⟩;refine ⟨_,rfl,?_⟩;have n0_:=zz (zi (g:=gb108) (o:= .cells #[.slice A0_0 l0_0.length c0_0,.slice A0_1 l0_1.length c0_1,.int .i64 a0_2,.slice A0_3 l0_3.length c0_3,.slice A0_4 l0_4.length c0_4,.slice A0_5 l0_5.length c0_5] 28 (0,0)) (zq0 BK108.out) hb);have n1_:=zz (ze (zq3 GE108.out) hb);clear BK108;clear HB;have BK108:=n0_;have HB:=n1_;clear n0_ n1_;(try clear hb);(try clear hb2);(try clear hk);(try clear hi);have hcz29_0:w28.cell? ⟨gb108,0,none⟩=some (.slice A0_0 l0_0.length c0_0):=(zb BK108.out 0).trans rfl;have hcz29_1:w28.cell? ⟨gb108,1,none⟩=some (.slice A0_1 l0_1.length c0_1):=(zb BK108.out 1).trans rfl;have hcz29_2:w28.cell? ⟨gb108,2,none⟩=some (.int .i64 a0_2):=(zb BK108.out 2).trans rfl;have hcz29_3:w28.cell? ⟨gb108,3,none⟩=some (.slice A0_3 l0_3.length c0_3):=(zb BK108.out 3).trans rfl;have hcz29_4:w28.cell? ⟨gb108,4,none⟩=some (.slice A0_4 l0_4.length c0_4):=(zb BK108.out 4).trans rfl;have hcz29_5:w28.cell? ⟨gb108,5,none⟩=some (.slice A0_5 l0_5.length c0_5):=(zb BK108.out 5).trans rfl;have hfz29_0:=za BK108.out 0;have hfz29_1:=za BK108.out 1;have hfz29_2:=za BK108.out 2;have hfz29_3:=za BK108.out 3;have hfz29_4:=za BK108.out 4;have hfz29_5:=za BK108.out 5)|((with_reducible refine zo (f:=46) rfl ?_);refine zw (some 14) rfl rfl Try.func46 zq15 rfl #[.slice A0_3 l0_3.length c0_3,.int .i64 t109] rfl zq4 ?_;(with_reducible refine (laws_szIntS.calls _ _ l0_3 t109 t110 _ ?side1 ?side2 A8.out).mono ?_);(case side1=>repeat (first|exact (Kd.C_below HR0_3.out HB.out)|(with_reducible refine Kd.C_alloc ?_ _)|(with_reducible refine Kd.C_drewN ?_ _)|(with_reducible refine Kd.C_drew ?_)));(case side2=>exact HC0_3.out);rintro e w' ⟨rfl,⟨nd,rfl⟩⟩;refine ⟨_,rfl,?_⟩)|((with_reducible refine zo (f:=46) rfl ?_);refine zw (some 20) rfl rfl Try.func46 zq15 rfl #[.slice A0_4 l0_4.length c0_4,.int .i64 t110] rfl zq4 ?_;(with_reducible refine (laws_szIntS.calls _ _ l0_4 t110 t111 _ ?side1 ?side2 A14.out).mono ?_);(case side1=>repeat (first|exact (Kd.C_below HR0_4.out (zq3 GE108.out))|(with_reducible refine Kd.C_alloc ?_ _)|(with_reducible refine Kd.C_drewN ?_ _)|(with_reducible refine Kd.C_drew ?_)));(case side2=>exact HC0_4.out);rintro e w' ⟨rfl,⟨nd,rfl⟩⟩;refine ⟨_,rfl,?_⟩)|((with_reducible refine zo (f:=46) rfl ?_);refine zw (some 26) rfl rfl Try.func46 zq15 rfl #[.slice A0_5 l0_5.length c0_5,.int .i64 t111] rfl zq4 ?_;(with_reducible refine (laws_szIntS.calls _ _ l0_5 t111 t112 _ ?side1 ?side2 A20.out).mono ?_);(case side1=>repeat (first|exact (Kd.C_below HR0_5.out (zq3 GE108.out))|(with_reducible refine Kd.C_alloc ?_ _)|(with_reducible refine Kd.C_drewN ?_ _)|(with_reducible refine Kd.C_drew ?_)));(case side2=>exact HC0_5.out);rintro e w' ⟨rfl,⟨nd,rfl⟩⟩;refine ⟨_,rfl,?_⟩))
     go_ret
     exact ⟨zq10,by repeat (first|(with_reducible first|exact HB.out|apply zg|apply zd|apply zk|refine zn ?_ GE108.out)|exact HB.out)⟩
def spec_l03Copy.f (l0_0:List ByteArray) (l0_1:List (S135)):Option (List ByteArray×(List (S135))):=(some (([]:List ByteArray):List ByteArray)).bind fun y115=>(if y115.length+l0_0.length<8796093022208 then ((some (([]:List (S135)):List (S135))).bind fun y121=>(if y121.length+l0_1.length<5864062014805 then (some ((y115++l0_0),(y121++l0_1))) else (none))) else (none))
def spec_l03Copy.T1:Bool×List (List Nat×List Nat):=(true,[([],[]),([],[]),([1],[1]),([0,2],[0,2]),([],[]),([],[]),([5],[5]),([4,6,3],[4,6]),([3,7],[3,7]),([8,7,0,1,2,3,4,5,6,7,8],[8])])
def spec_l03Copy.B1:List Nat:=[0,0,2,7,0,0,32,127,255,511]
theorem spec_l03Copy.tab1:rtab .any (opsOf Try.f65 1)=spec_l03Copy.T1:=zq15
theorem spec_l03Copy.bits1:zza spec_l03Copy.T1.2 spec_l03Copy.B1=true:=zq15
theorem spec_l03Copy.calls (A0_0:Option Addr) (c0_0:Nat) (l0_0:List ByteArray) (A0_1:Option Addr) (c0_1:Nat) (l0_1:List (S135)) (r1:List ByteArray) (r2:List (S135)) (w:World) (hr0_0:Kd.C Kd.string w A0_0 l0_0.length l0_0) (hc0_0:l0_0.length≤c0_0) (hr0_1:Kd.C k135 w A0_1 l0_1.length l0_1) (hc0_1:l0_1.length≤c0_1) (h:spec_l03Copy.f l0_0 l0_1=some (r1,r2)):
  Calls Try.prog 65 #[.agg #[.slice A0_0 l0_0.length c0_0,.slice A0_1 l0_1.length c0_1]] w fun e w'=>∃v0_ v1_:Value,e= .returned (.agg #[v0_,v1_])∧Kd.R Kd.string 9 w' w.heap.size (fun _=>True) v0_ r1∧Kd.R k135 135 w' w.heap.size (fun _=>True) v1_ r2∧Below w.heap.size w w':=by
 have hu32:=Try.underlying32
 have HR0_0:=zz hr0_0
 have HC0_0:=zz hc0_0
 clear hr0_0 hc0_0
 have HR0_1:=zz hr0_1
 have HC0_1:=zz hc0_1
 clear hr0_1 hc0_1
 have HB:=zz (Below.refl w.heap.size w)
 have H:((some (([]:List ByteArray):List ByteArray)).bind fun y115=>(if y115.length+l0_0.length<8796093022208 then ((some (([]:List (S135)):List (S135))).bind fun y121=>(if y121.length+l0_1.length<5864062014805 then (some ((y115++l0_0),(y121++l0_1))) else (none))) else (none)))=some (r1,r2):=h
 clear h
 obtain ⟨y115,hy115⟩:∃y_:List ByteArray,y_=(([]:List ByteArray)):=⟨_,rfl⟩
 replace H:(if y115.length+l0_0.length<8796093022208 then ((some (([]:List (S135)):List (S135))).bind fun y121=>(if y121.length+l0_1.length<5864062014805 then (some ((y115++l0_0),(y121++l0_1))) else (none))) else (none))=some (r1,r2):=zq8 hy115
 have Ny115:=zz hy115
 clear hy115
 by_cases c2:y115.length+l0_0.length<8796093022208
 ·rw [if_pos c2] at H
  have LMc2:=zz c2
  clear c2
  obtain ⟨y118,hy118⟩:∃y_:List ByteArray,y_=(y115++l0_0):=⟨_,rfl⟩
  replace H:((some (([]:List (S135)):List (S135))).bind fun y121=>(if y121.length+l0_1.length<5864062014805 then (some (y118,(y121++l0_1))) else (none)))=some (r1,r2):=zq8 hy118
  have Ny118:=zz hy118
  clear hy118
  obtain ⟨y121,hy121⟩:∃y_:List (S135),y_=(([]:List (S135))):=⟨_,rfl⟩
  replace H:(if y121.length+l0_1.length<5864062014805 then (some (y118,(y121++l0_1))) else (none))=some (r1,r2):=zq8 hy121
  have Ny121:=zz hy121
  clear hy121
  by_cases c3:y121.length+l0_1.length<5864062014805
  ·rw [if_pos c3] at H
   have LMc3:=zz c3
   clear c3
   obtain ⟨y124,hy124⟩:∃y_:List (S135),y_=(y121++l0_1):=⟨_,rfl⟩
   replace H:(some (y118,y124))=some (r1,r2):=zq8 hy124
   have Ny124:=zz hy124
   clear hy124
   simp only [Option.some.injEq,Prod.mk.injEq] at H
   obtain ⟨rfl,rfl⟩:=H
   go_enter Try.func65,Try.ntmps65
   try go_wp2_with (first|((with_reducible refine zm (N:=1) rfl ?_);refine zq ?hg (N:=1) ?hd (cs:= #[.slice A0_0 l0_0.length c0_0,.slice A0_1 l0_1.length c0_1]) (t:=32) ?hr ?_;(case hd=>rfl);(case hg=>rfl);(case hr=>first|(go_simp;done)|(go_simp;rfl));intro gb113 hg w4 hbox hb;have n0_:=zz (ze zq2 hb);have n1_:=zz (hbox);have n2_:=zz ((by rw [hg];exact (zc zq2):w.heap.size≤gb113));have n3_:=zz ((by rw [hg];exact (zc zq2):w.heap.size≤gb113));clear HB;have HB:=n0_;have BK113:=n1_;have GW113:=n2_;have GE113:=n3_;clear n0_ n1_ n2_ n3_;clear hb hbox hg)|((with_reducible refine zm (N:=2) rfl ?_);refine zq ?hg (N:=2) ?hd (cs:= #[.slice none 0 0,.slice none 0 0]) (t:=32) ?hr ?_;(case hd=>rfl);(case hg=>rfl);(case hr=>first|(go_simp;done)|(go_simp;rfl));intro gb114 hg w5 hbox hb;have n0_:=zz (zi (g:=gb113) (o:= .cells #[.slice A0_0 l0_0.length c0_0,.slice A0_1 l0_1.length c0_1] 32 (0,0)) (zq0 BK113.out) hb);have n1_:=zz (ze (zq3 GE113.out) hb);have n2_:=zz (hbox);have n3_:=zz ((by rw [hg];exact (zc (zq3 GE113.out)):w.heap.size≤gb114));have n4_:=zz ((by rw [hg];exact (zc (zq3 GE113.out)):w.heap.size≤gb114));have n5_:=zz ((by rw [hg];exact Nat.ne_of_lt (zu (g:=gb113) (o:= .cells #[.slice A0_0 l0_0.length c0_0,.slice A0_1 l0_1.length c0_1] 32 (0,0)) (zq0 BK113.out)):gb113≠gb114));have n6_:=zz ((by rw [hg];exact Nat.ne_of_gt (zu (g:=gb113) (o:= .cells #[.slice A0_0 l0_0.length c0_0,.slice A0_1 l0_1.length c0_1] 32 (0,0)) (zq0 BK113.out)):gb114≠gb113));clear BK113;clear HB;have BK113:=n0_;have HB:=n1_;have BK114:=n2_;have GW114:=n3_;have GE114:=n4_;have NB113_114:=n5_;have NB114_113:=n6_;clear n0_ n1_ n2_ n3_ n4_ n5_ n6_;clear hb hbox hg))
   have n0_:=zz (zj BK113.out)
   have n1_:=zz (zj BK114.out)
   have n2_:=zz (zk HB.out)
   clear BK113
   clear BK114
   clear HB
   have BK113:=n0_
   have BK114:=n1_
   have HB:=n2_
   clear n0_ n1_ n2_
   refine start_ (n:=10) (S:=fun w'=>w'.cell? ⟨gb113,0,none⟩=some (.slice A0_0 l0_0.length c0_0)∧w'.cell? ⟨gb113,1,none⟩=some (.slice A0_1 l0_1.length c0_1)) (ds:=[]) #[false,false,false,false,false,false,false,false,false,false] zq15 rfl rfl ⟨(zb BK113.out 0).trans rfl,(zb BK113.out 1).trans rfl⟩ (fun hHeld=> ?_);refine zXa spec_l03Copy.tab1 spec_l03Copy.bits1 (fun HT_ HW_=> ?_)
   generalize w5.drew=w6 at BK113 BK114 HB hHeld ⊢
   refine zca (i:=1) (N:=some 4) (v:= ?_) (a':= ?_) #[false,true,false,false,false,false,false,false,false,false] rfl rfl (zV HT_.out zq15) (fun _ _ _ h=>h) (Or.inl ⟨zq44,zq27⟩) zq12 ?_
   refine zca (i:=5) (N:=some 8) (v:= ?_) (a':= ?_) #[false,true,false,false,false,true,false,false,false,false] rfl rfl (zV HT_.out zq15) (fun _ _ _ h=>h) (Or.inl ⟨zq44,zq27⟩) zq12 ?_
   refine take_ (i:=2) (N:=some 5) (v:= ?_) (a':= ?_) #[false,true,true,false,false,true,false,false,false,false] rfl rfl (zaa HT_.out HW_.out zq15) (fun _ _ _ h=>h) (Or.inl ⟨zq44,zq117⟩) hHeld zq12 ?_
   refine take_ (i:=6) (N:=some 9) (v:= ?_) (a':= ?_) #[false,true,true,false,false,true,true,false,false,false] rfl rfl (zaa HT_.out HW_.out zq15) (fun _ _ _ h=>h) (Or.inl ⟨zq44,zq117⟩) hHeld zq12 ?_
   refine join_ (σ:=Value×Value×Value) 3 #[true,true,true,true,true,true,true,false,false,false] (fun s_=>[(3,s_.1),(6,s_.2.1),(7,s_.2.2)]) (fun s_ w'=>(w'.cell? ⟨gb113,0,none⟩=some (.slice A0_0 l0_0.length c0_0)∧w'.cell? ⟨gb113,1,none⟩=some (.slice A0_1 l0_1.length c0_1))∧(Kd.R Kd.string 9 w' w.heap.size (fun _=>True) s_.2.1 y118)∧(Kd.R k135 135 w' w.heap.size (fun _=>True) s_.2.2 y121)∧(w'.heap[gb113]?=some (.cells #[.slice A0_0 l0_0.length c0_0,.slice A0_1 l0_1.length c0_1] 32 (0,0)))∧(w'.heap[gb114]?=some (.cells #[.slice none 0 0,.slice none 0 0] 32 (0,0)))∧(Below w.heap.size w w')) ?_ ?_
   rotate_left
   ·intro hCont
    refine two_ (i:=0) (j:=4) (Ni:=some 3) (Nj:=some 7) #[true,true,true,false,false,true,true,false,false,false] #[false,true,true,false,true,true,true,false,false,false] rfl rfl rfl rfl (two_of HT_.out zq15) zq26 zq26 (fun K hK=> ?_) (fun K hK=> ?_)
    ·skip
     refine Kd.R_lit_step Kd.string _ 9 ?hg (N:=3) ?hd (xs:=([]:List ByteArray)) (inner:=[]) (ok:=fun _=>True) (okp:=fun _=>True) ?hr ?hp (fun _ hk=>hk) trivial (Below.refl _ _) (Nat.le_refl _) zq52 ?_;(case hd=>rfl);(case hg=>rfl);(case hr=>first|(go_simp;done)|(go_simp;rfl));(case hp=>exact (Reps.none _ _))
     intro v116 w7 ho8 hb hg_ hnew_
     clear hg_ hnew_
     (first|rw [←Ny115.out] at ho8|(simp only [Int.reduceToNat] at ho8;rw [←Ny115.out] at ho8))
     have n0_:=zz (Kd.R_lower ho8 (zc (zq1 GE113.out GE114.out)))
     have n1_:=zz (zi (g:=gb113) (o:= .cells #[.slice A0_0 l0_0.length c0_0,.slice A0_1 l0_1.length c0_1] 32 (0,0)) (zq0 BK113.out) hb)
     have n2_:=zz (zi (g:=gb114) (o:= .cells #[.slice none 0 0,.slice none 0 0] 32 (0,0)) (zq0 BK114.out) hb)
     have n3_:=zz (ze (zq1 GE113.out GE114.out) hb)
     clear BK113
     clear BK114
     clear HB
     have HO117:=n0_
     have BK113:=n1_
     have BK114:=n2_
     have HB:=n3_
     clear n0_ n1_ n2_ n3_
     clear hb ho8
     refine hK.out _ _ ⟨(zb BK113.out 0).trans rfl,(zb BK113.out 1).trans rfl⟩ (fun hHeld=> ?_)
     clear hK K
     refine zAa (a':= ?_) ?_ ?_
     rotate_left
     ·show Act.put _ (some 3) _=_
      simp only [Act.put,List.setIfInBounds_toArray,List.set_cons_zero,List.set_cons_succ,zfa,zOa]
      rfl
     refine two_ (i:=3) (j:=4) (Ni:=some 6) (Nj:=some 7) #[true,true,true,true,false,true,true,false,false,false] #[true,true,true,false,true,true,true,false,false,false] rfl rfl rfl rfl (two_of HT_.out zq15) zq26 zq26 (fun K hK=> ?_) (fun K hK=> ?_)
     ·skip
      refine Kd.R_append_rows_step Kd.string (w0:=w) w.heap.size zq44 (.tmp 3) (.tmp 5) 22 9 (.string ⟨#[]⟩) 16 rfl Try.underlying22 info9 rfl zq26 zq11 v116 y115 l0_0 _ _ _ (fun _=>True) (fun _=>False) rfl rfl ?aO ?aR (fun _ _ h=>h) (fun _ h=>h.elim) ?aF ?aB ?aS ?aL ?_
      (case aR=>repeat (first|exact (Kd.C_below HR0_0.out HB.out)|(with_reducible refine Kd.C_alloc ?_ _)|(with_reducible refine Kd.C_drewN ?_ _)|(with_reducible refine Kd.C_drew ?_)))
      (case aB=>exact (zq1 GE113.out GE114.out))
      (case aF=>exact (fun _ _=>trivial))
      (case aO=>exact (zq5 HO117.out))
      (case aS=>exact (zc (zq1 GE113.out GE114.out)))
      (case aL=>have:=LMc2.out;omega)
      intro v119 w9 ho hb hg hat
      rw [←Ny118.out] at ho
      have n0_:=zz (zE (g:=gb113) (o:= .cells #[.slice A0_0 l0_0.length c0_0,.slice A0_1 l0_1.length c0_1] 32 (0,0)) (zq0 BK113.out) hg (Kd.R_ne HO117.out BK113.out zq26))
      have n1_:=zz (zE (g:=gb114) (o:= .cells #[.slice none 0 0,.slice none 0 0] 32 (0,0)) (zq0 BK114.out) hg (Kd.R_ne HO117.out BK114.out zq26))
      have n2_:=zz (hb)
      have n3_:=zz (ho)
      clear BK113
      clear BK114
      clear HB
      clear HO117
      have BK113:=n0_
      have BK114:=n1_
      have HB:=n2_
      have HO120:=n3_
      clear n0_ n1_ n2_ n3_
      clear ho hb hg hat
      refine hK.out _ _ ⟨(zb BK113.out 0).trans rfl,(zb BK113.out 1).trans rfl⟩ (fun hHeld=> ?_)
      clear hK K
      refine zAa (a':= ?_) ?_ ?_
      rotate_left
      ·show Act.put _ (some 6) _=_
       simp only [Act.put,List.setIfInBounds_toArray,List.set_cons_zero,List.set_cons_succ,zfa,zOa]
       rfl
      refine one_ (i:=4) (N:=some 7) #[true,true,true,true,true,true,true,false,false,false] rfl rfl (zoa HT_.out zq15) zq26 (fun K hK=> ?_)
      refine Kd.R_lit_step k135 _ 135 ?hg (N:=7) ?hd (xs:=([]:List (S135))) (inner:=[]) (ok:=fun _=>True) (okp:=fun _=>True) ?hr ?hp (fun _ hk=>hk) trivial (Below.refl _ _) (Nat.le_refl _) zq52 ?_;(case hd=>rfl);(case hg=>rfl);(case hr=>first|(go_simp;done)|(go_simp;rfl));(case hp=>exact (Reps.none _ _))
      intro v122 w10 ho11 hb hg_ hnew_
      clear hg_ hnew_
      (first|rw [←Ny121.out] at ho11|(simp only [Int.reduceToNat] at ho11;rw [←Ny121.out] at ho11))
      have n0_:=zz (Kd.R_below (zq5 HO120.out) hb)
      have n1_:=zz (Kd.R_lower ho11 (zc (zq1 GE113.out GE114.out)))
      have n2_:=zz (zi (g:=gb113) (o:= .cells #[.slice A0_0 l0_0.length c0_0,.slice A0_1 l0_1.length c0_1] 32 (0,0)) (zq0 BK113.out) hb)
      have n3_:=zz (zi (g:=gb114) (o:= .cells #[.slice none 0 0,.slice none 0 0] 32 (0,0)) (zq0 BK114.out) hb)
      have n4_:=zz (ze (zq1 GE113.out GE114.out) hb)
      clear HO120
      clear BK113
      clear BK114
      clear HB
      have HO120:=n0_
      have HO123:=n1_
      have BK113:=n2_
      have BK114:=n3_
      have HB:=n4_
      clear n0_ n1_ n2_ n3_ n4_
      clear hb ho11
      refine hK.out _ _ ⟨(zb BK113.out 0).trans rfl,(zb BK113.out 1).trans rfl⟩ (fun hHeld=> ?_)
      clear hK K
      refine zAa (a':= ?_) ?_ ?_
      rotate_left
      ·show Act.put _ (some 7) _=_
       simp only [Act.put,List.setIfInBounds_toArray,List.set_cons_zero,List.set_cons_succ,zfa,zOa]
       rfl
      exact zAa zq114 (hCont (v116,v119,v122) _ ⟨hHeld,(zq5 HO120.out),(zq5 HO123.out),(zq0 BK113.out),(zq0 BK114.out),(zq1 GE113.out GE114.out)⟩)
     ·skip
      refine Kd.R_lit_step k135 _ 135 ?hg (N:=7) ?hd (xs:=([]:List (S135))) (inner:=[]) (ok:=fun _=>True) (okp:=fun _=>True) ?hr ?hp (fun _ hk=>hk) trivial (Below.refl _ _) (Nat.le_refl _) zq52 ?_;(case hd=>rfl);(case hg=>rfl);(case hr=>first|(go_simp;done)|(go_simp;rfl));(case hp=>exact (Reps.none _ _))
      intro v122 w9 ho10 hb hg_ hnew_
      clear hg_ hnew_
      (first|rw [←Ny121.out] at ho10|(simp only [Int.reduceToNat] at ho10;rw [←Ny121.out] at ho10))
      have n0_:=zz (Kd.R_below (zq5 HO117.out) hb)
      have n1_:=zz (Kd.R_lower ho10 (zc (zq1 GE113.out GE114.out)))
      have n2_:=zz (zi (g:=gb113) (o:= .cells #[.slice A0_0 l0_0.length c0_0,.slice A0_1 l0_1.length c0_1] 32 (0,0)) (zq0 BK113.out) hb)
      have n3_:=zz (zi (g:=gb114) (o:= .cells #[.slice none 0 0,.slice none 0 0] 32 (0,0)) (zq0 BK114.out) hb)
      have n4_:=zz (ze (zq1 GE113.out GE114.out) hb)
      clear HO117
      clear BK113
      clear BK114
      clear HB
      have HO117:=n0_
      have HO123:=n1_
      have BK113:=n2_
      have BK114:=n3_
      have HB:=n4_
      clear n0_ n1_ n2_ n3_ n4_
      clear hb ho10
      refine hK.out _ _ ⟨(zb BK113.out 0).trans rfl,(zb BK113.out 1).trans rfl⟩ (fun hHeld=> ?_)
      clear hK K
      refine zAa (a':= ?_) ?_ ?_
      rotate_left
      ·show Act.put _ (some 7) _=_
       simp only [Act.put,List.setIfInBounds_toArray,List.set_cons_zero,List.set_cons_succ,zfa,zOa]
       rfl
      refine one_ (i:=3) (N:=some 6) #[true,true,true,true,true,true,true,false,false,false] rfl rfl (zoa HT_.out zq15) zq26 (fun K hK=> ?_)
      refine Kd.R_append_rows_step Kd.string (w0:=w) w.heap.size zq44 (.tmp 3) (.tmp 5) 22 9 (.string ⟨#[]⟩) 16 rfl Try.underlying22 info9 rfl zq26 zq11 v116 y115 l0_0 _ _ _ (fun _=>True) (fun _=>False) rfl rfl ?aO ?aR (fun _ _ h=>h) (fun _ h=>h.elim) ?aF ?aB ?aS ?aL ?_
      (case aR=>repeat (first|exact (Kd.C_below HR0_0.out HB.out)|(with_reducible refine Kd.C_alloc ?_ _)|(with_reducible refine Kd.C_drewN ?_ _)|(with_reducible refine Kd.C_drew ?_)))
      (case aB=>exact (zq1 GE113.out GE114.out))
      (case aF=>exact (fun _ _=>trivial))
      (case aO=>exact (zq5 HO117.out))
      (case aS=>exact (zc (zq1 GE113.out GE114.out)))
      (case aL=>have:=LMc2.out;omega)
      intro v119 w11 ho hb hg hat
      rw [←Ny118.out] at ho
      have n0_:=zz (zE (g:=gb113) (o:= .cells #[.slice A0_0 l0_0.length c0_0,.slice A0_1 l0_1.length c0_1] 32 (0,0)) (zq0 BK113.out) hg (Kd.R_ne HO117.out BK113.out zq26))
      have n1_:=zz (zE (g:=gb114) (o:= .cells #[.slice none 0 0,.slice none 0 0] 32 (0,0)) (zq0 BK114.out) hg (Kd.R_ne HO117.out BK114.out zq26))
      have n2_:=zz (Kd.R_over' (zq5 HO123.out) (Kd.R_typed (zq5 HO117.out)) zq26 hg)
      have n3_:=zz (hb)
      have n4_:=zz (ho)
      clear BK113
      clear BK114
      clear HO123
      clear HB
      clear HO117
      have BK113:=n0_
      have BK114:=n1_
      have HO123:=n2_
      have HB:=n3_
      have HO120:=n4_
      clear n0_ n1_ n2_ n3_ n4_
      clear ho hb hg hat
      refine hK.out _ _ ⟨(zb BK113.out 0).trans rfl,(zb BK113.out 1).trans rfl⟩ (fun hHeld=> ?_)
      clear hK K
      refine zAa (a':= ?_) ?_ ?_
      rotate_left
      ·show Act.put _ (some 6) _=_
       simp only [Act.put,List.setIfInBounds_toArray,List.set_cons_zero,List.set_cons_succ,zfa,zOa]
       rfl
      exact zAa zq114 (hCont (v116,v119,v122) _ ⟨hHeld,(zq5 HO120.out),(zq5 HO123.out),(zq0 BK113.out),(zq0 BK114.out),(zq1 GE113.out GE114.out)⟩)
    ·skip
     refine Kd.R_lit_step k135 _ 135 ?hg (N:=7) ?hd (xs:=([]:List (S135))) (inner:=[]) (ok:=fun _=>True) (okp:=fun _=>True) ?hr ?hp (fun _ hk=>hk) trivial (Below.refl _ _) (Nat.le_refl _) zq52 ?_;(case hd=>rfl);(case hg=>rfl);(case hr=>first|(go_simp;done)|(go_simp;rfl));(case hp=>exact (Reps.none _ _))
     intro v122 w7 ho8 hb hg_ hnew_
     clear hg_ hnew_
     (first|rw [←Ny121.out] at ho8|(simp only [Int.reduceToNat] at ho8;rw [←Ny121.out] at ho8))
     have n0_:=zz (Kd.R_lower ho8 (zc (zq1 GE113.out GE114.out)))
     have n1_:=zz (zi (g:=gb113) (o:= .cells #[.slice A0_0 l0_0.length c0_0,.slice A0_1 l0_1.length c0_1] 32 (0,0)) (zq0 BK113.out) hb)
     have n2_:=zz (zi (g:=gb114) (o:= .cells #[.slice none 0 0,.slice none 0 0] 32 (0,0)) (zq0 BK114.out) hb)
     have n3_:=zz (ze (zq1 GE113.out GE114.out) hb)
     clear BK113
     clear BK114
     clear HB
     have HO123:=n0_
     have BK113:=n1_
     have BK114:=n2_
     have HB:=n3_
     clear n0_ n1_ n2_ n3_
     clear hb ho8
     refine hK.out _ _ ⟨(zb BK113.out 0).trans rfl,(zb BK113.out 1).trans rfl⟩ (fun hHeld=> ?_)
     clear hK K
     refine zAa (a':= ?_) ?_ ?_
     rotate_left
     ·show Act.put _ (some 7) _=_
      simp only [Act.put,List.setIfInBounds_toArray,List.set_cons_zero,List.set_cons_succ,zfa,zOa]
      rfl
     refine one_ (i:=0) (N:=some 3) #[true,true,true,false,true,true,true,false,false,false] rfl rfl (zoa HT_.out zq15) zq26 (fun K hK=> ?_)
     refine Kd.R_lit_step Kd.string _ 9 ?hg (N:=3) ?hd (xs:=([]:List ByteArray)) (inner:=[]) (ok:=fun _=>True) (okp:=fun _=>True) ?hr ?hp (fun _ hk=>hk) trivial (Below.refl _ _) (Nat.le_refl _) zq52 ?_;(case hd=>rfl);(case hg=>rfl);(case hr=>first|(go_simp;done)|(go_simp;rfl));(case hp=>exact (Reps.none _ _))
     intro v116 w9 ho10 hb hg_ hnew_
     clear hg_ hnew_
     (first|rw [←Ny115.out] at ho10|(simp only [Int.reduceToNat] at ho10;rw [←Ny115.out] at ho10))
     have n0_:=zz (Kd.R_below (zq5 HO123.out) hb)
     have n1_:=zz (Kd.R_lower ho10 (zc (zq1 GE113.out GE114.out)))
     have n2_:=zz (zi (g:=gb113) (o:= .cells #[.slice A0_0 l0_0.length c0_0,.slice A0_1 l0_1.length c0_1] 32 (0,0)) (zq0 BK113.out) hb)
     have n3_:=zz (zi (g:=gb114) (o:= .cells #[.slice none 0 0,.slice none 0 0] 32 (0,0)) (zq0 BK114.out) hb)
     have n4_:=zz (ze (zq1 GE113.out GE114.out) hb)
     clear HO123
     clear BK113
     clear BK114
     clear HB
     have HO123:=n0_
     have HO117:=n1_
     have BK113:=n2_
     have BK114:=n3_
     have HB:=n4_
     clear n0_ n1_ n2_ n3_ n4_
     clear hb ho10
     refine hK.out _ _ ⟨(zb BK113.out 0).trans rfl,(zb BK113.out 1).trans rfl⟩ (fun hHeld=> ?_)
     clear hK K
     refine zAa (a':= ?_) ?_ ?_
     rotate_left
     ·show Act.put _ (some 3) _=_
      simp only [Act.put,List.setIfInBounds_toArray,List.set_cons_zero,List.set_cons_succ,zfa,zOa]
      rfl
     refine one_ (i:=3) (N:=some 6) #[true,true,true,true,true,true,true,false,false,false] rfl rfl (zoa HT_.out zq15) zq26 (fun K hK=> ?_)
     refine Kd.R_append_rows_step Kd.string (w0:=w) w.heap.size zq44 (.tmp 3) (.tmp 5) 22 9 (.string ⟨#[]⟩) 16 rfl Try.underlying22 info9 rfl zq26 zq11 v116 y115 l0_0 _ _ _ (fun _=>True) (fun _=>False) rfl rfl ?aO ?aR (fun _ _ h=>h) (fun _ h=>h.elim) ?aF ?aB ?aS ?aL ?_
     (case aR=>repeat (first|exact (Kd.C_below HR0_0.out HB.out)|(with_reducible refine Kd.C_alloc ?_ _)|(with_reducible refine Kd.C_drewN ?_ _)|(with_reducible refine Kd.C_drew ?_)))
     (case aB=>exact (zq1 GE113.out GE114.out))
     (case aF=>exact (fun _ _=>trivial))
     (case aO=>exact (zq5 HO117.out))
     (case aS=>exact (zc (zq1 GE113.out GE114.out)))
     (case aL=>have:=LMc2.out;omega)
     intro v119 w11 ho hb hg hat
     rw [←Ny118.out] at ho
     have n0_:=zz (zE (g:=gb113) (o:= .cells #[.slice A0_0 l0_0.length c0_0,.slice A0_1 l0_1.length c0_1] 32 (0,0)) (zq0 BK113.out) hg (Kd.R_ne HO117.out BK113.out zq26))
     have n1_:=zz (zE (g:=gb114) (o:= .cells #[.slice none 0 0,.slice none 0 0] 32 (0,0)) (zq0 BK114.out) hg (Kd.R_ne HO117.out BK114.out zq26))
     have n2_:=zz (Kd.R_over' (zq5 HO123.out) (Kd.R_typed (zq5 HO117.out)) zq26 hg)
     have n3_:=zz (hb)
     have n4_:=zz (ho)
     clear BK113
     clear BK114
     clear HO123
     clear HB
     clear HO117
     have BK113:=n0_
     have BK114:=n1_
     have HO123:=n2_
     have HB:=n3_
     have HO120:=n4_
     clear n0_ n1_ n2_ n3_ n4_
     clear ho hb hg hat
     refine hK.out _ _ ⟨(zb BK113.out 0).trans rfl,(zb BK113.out 1).trans rfl⟩ (fun hHeld=> ?_)
     clear hK K
     refine zAa (a':= ?_) ?_ ?_
     rotate_left
     ·show Act.put _ (some 6) _=_
      simp only [Act.put,List.setIfInBounds_toArray,List.set_cons_zero,List.set_cons_succ,zfa,zOa]
      rfl
     exact zAa zq114 (hCont (v116,v119,v122) _ ⟨hHeld,(zq5 HO120.out),(zq5 HO123.out),(zq0 BK113.out),(zq0 BK114.out),(zq1 GE113.out GE114.out)⟩)
   rintro ⟨v116,v119,v122⟩ w12 ⟨hS_,h0_,h1_,h2_,h3_,h4_⟩
   have n0_:Z0 (Kd.R Kd.string 9 w12 w.heap.size (fun _=>True) v119 y118):=⟨h0_⟩
   have n1_:Z0 (Kd.R k135 135 w12 w.heap.size (fun _=>True) v122 y121):=⟨h1_⟩
   have n2_:Z0 (w12.heap[gb113]?=some (.cells #[.slice A0_0 l0_0.length c0_0,.slice A0_1 l0_1.length c0_1] 32 (0,0))):=⟨h2_⟩
   have n3_:Z0 (w12.heap[gb114]?=some (.cells #[.slice none 0 0,.slice none 0 0] 32 (0,0))):=⟨h3_⟩
   have n4_:Z0 (Below w.heap.size w w12):=⟨h4_⟩
   clear BK113
   clear BK114
   clear HB
   clear h0_ h1_ h2_ h3_ h4_
   have HO120:=n0_
   have HO123:=n1_
   have BK113:=n2_
   have BK114:=n3_
   have HB:=n4_
   clear n0_ n1_ n2_ n3_ n4_
   have hHeld:w12.cell? ⟨gb113,0,none⟩=some (.slice A0_0 l0_0.length c0_0)∧w12.cell? ⟨gb113,1,none⟩=some (.slice A0_1 l0_1.length c0_1):=hS_
   refine zAa (a':= ?_) ?_ ?_
   rotate_left
   ·simp only [putAll,Act.put,List.setIfInBounds_toArray,List.set_cons_zero,List.set_cons_succ]
    rfl
   refine one_ (i:=7) (N:=some 10) #[true,true,true,true,true,true,true,true,false,false] rfl rfl (zoa HT_.out zq15) zq26 (fun K hK=> ?_)
   refine Kd.R_append_rows_step k135 (w0:=w) w.heap.size zq44 (.tmp 7) (.tmp 9) 30 135 (.agg #[(.int .i64 0),(.string ⟨#[]⟩)]) 24 rfl Try.underlying30 info135 rfl zq26 zq11 v122 y121 l0_1 _ _ _ (fun _=>True) (fun _=>False) rfl rfl ?aO ?aR (fun _ _ h=>h) (fun _ h=>h.elim) ?aF ?aB ?aS ?aL ?_
   (case aR=>repeat (first|exact (Kd.C_below HR0_1.out HB.out)|(with_reducible refine Kd.C_alloc ?_ _)|(with_reducible refine Kd.C_drewN ?_ _)|(with_reducible refine Kd.C_drew ?_)))
   (case aB=>exact (zq1 GE113.out GE114.out))
   (case aF=>exact (fun _ _=>trivial))
   (case aO=>exact (zq5 HO123.out))
   (case aS=>exact (zc (zq1 GE113.out GE114.out)))
   (case aL=>have:=LMc3.out;omega)
   intro v125 w13 ho hb hg hat
   rw [←Ny124.out] at ho
   have n0_:=zz (zE (g:=gb113) (o:= .cells #[.slice A0_0 l0_0.length c0_0,.slice A0_1 l0_1.length c0_1] 32 (0,0)) (zq0 BK113.out) hg (Kd.R_ne HO123.out BK113.out zq26))
   have n1_:=zz (zE (g:=gb114) (o:= .cells #[.slice none 0 0,.slice none 0 0] 32 (0,0)) (zq0 BK114.out) hg (Kd.R_ne HO123.out BK114.out zq26))
   have n2_:=zz (Kd.R_over' (zq5 HO120.out) (Kd.R_typed (zq5 HO123.out)) zq26 hg)
   have n3_:=zz (hb)
   have n4_:=zz (ho)
   clear BK113
   clear BK114
   clear HO120
   clear HB
   clear HO123
   have BK113:=n0_
   have BK114:=n1_
   have HO120:=n2_
   have HB:=n3_
   have HO126:=n4_
   clear n0_ n1_ n2_ n3_ n4_
   clear ho hb hg hat
   obtain ⟨Ao14,co14,eo14⟩:=Kd.R_slice HO126.out
   (first|subst eo14|(injection eo14 with f1_ f2_ f3_;have f4_:=f1_.symm;have f5_:=f3_.symm;clear f1_ f2_ f3_;subst f4_;subst f5_))
   obtain ⟨Ao15,co15,eo15⟩:=Kd.R_slice HO120.out
   (first|subst eo15|(injection eo15 with f1_ f2_ f3_;have f4_:=f1_.symm;have f5_:=f3_.symm;clear f1_ f2_ f3_;subst f4_;subst f5_))
   refine hK.out _ _ ⟨(zb BK113.out 0).trans rfl,(zb BK113.out 1).trans rfl⟩ (fun hHeld=> ?_)
   clear hK K
   refine zAa (a':= ?_) ?_ ?_
   rotate_left
   ·show Act.put _ (some 10) _=_
    simp only [Act.put,List.setIfInBounds_toArray,List.set_cons_zero,List.set_cons_succ,zfa,zOa]
    rfl
   refine zca (i:=8) (N:=some 11) (v:= ?_) (a':= ?_) #[true,true,true,true,true,true,true,true,true,false] rfl rfl (zV HT_.out zq15) (fun _ _ _ h=>h) (Or.inl ⟨zq44,zq27⟩) zq12 ?_
   refine one_ (i:=9) (N:=none) #[true,true,true,true,true,true,true,true,true,true] rfl rfl (zoa HT_.out zq15) zq26 (fun K hK=> ?_)
   have hs16:w13.cell? ⟨gb114,0,none⟩=some (.slice none 0 0):=(zb BK114.out 0).trans rfl
   have hfs16:=za BK114.out 0
   have hns16_0:=NB113_114.out
   have hms16_0:=NB114_113.out
   have hs17:w13.cell? ⟨gb114,1,none⟩=some (.slice none 0 0):=(zb BK114.out 1).trans rfl
   have hfs17:=za BK114.out 1
   have hns17_0:=NB113_114.out
   have hms17_0:=NB114_113.out
   refine skip_ (w1:= ?_) zq44 rfl ?_ ?_
   rotate_left
   ·go_simp
    rfl
   refine hK.out _ _ ⟨((zl (p:=⟨gb114,_,none⟩) NB113_114.out _).trans (((zl (p:=⟨gb114,_,none⟩) NB113_114.out _).trans (hHeld.1)))),((zl (p:=⟨gb114,_,none⟩) NB113_114.out _).trans (((zl (p:=⟨gb114,_,none⟩) NB113_114.out _).trans (hHeld.2))))⟩ (fun hHeld=> ?_)
   clear hK K
   refine done_ (done_of HT_.out zq15) ?_
   try go_wp2
   refine bodyPost_ret (results_cell_row rfl _ _ gb114 32 #[.slice Ao15 y118.length co15,.slice Ao14 y124.length co14] (0,0) _ rfl (by (with_reducible repeat (first|refine zf ?_ _|refine zj ?_|refine zh ?_ _));refine zr (cs:= #[.slice Ao15 y118.length co15,.slice none 0 0]) ?_ 1 _ rfl;(with_reducible repeat (first|refine zf ?_ _|refine zj ?_|refine zh ?_ _));refine zr (cs:= #[.slice none 0 0,.slice none 0 0]) ?_ 0 _ rfl;(with_reducible repeat (first|refine zf ?_ _|refine zj ?_|refine zh ?_ _));exact BK114.out) Try.underlying32 rfl zq15) rfl ?_
   exact ⟨_,_,zq10,zq74 HO120.out BK114.out,zq74 HO126.out BK114.out,by repeat (first|(with_reducible first|exact HB.out|apply zg|apply zd|apply zk|refine zn ?_ GE113.out|refine zn ?_ GE114.out)|exact HB.out)⟩
  ·rw [if_neg c3] at H
   exact absurd H zq52
 ·rw [if_neg c2] at H
  exact absurd H zq52
end Go.Proofs.Ytonhdiemjgdcnaa.PFnExactGivePage
