import Derived.Test.YtonhdiemjgdcnaaPA2
import Derived.WalkSpells
set_option maxHeartbeats 64000000
set_option maxRecDepth 100000
set_option linter.unusedVariables false
set_option linter.unusedSimpArgs false
namespace Go.Proofs.Ytonhdiemjgdcnaa.PFnExactGivePage
open Go.RowKit Go.Proofs.YtonhdiemjgdcnaaW.PrintWords Go.Proofs.YtonhdiemjgdcnaaW.PrintLast Go.Proofs.YtonhdiemjgdcnaaW.PrintMore
attribute [local go_sem] zO zP zY zX zK zJ zQ zR
def laws_toStringS.l0:Nat→List ByteArray→List ByteArray→Int→Option (List ByteArray)
 |0,_,_,_=>none
 |k+1,x0,x3,x4=>if x4<(x0.length:Int) then (if 0≤x4 then (if x4<(x3.length:Int) then (laws_toStringS.l0 k x0 (x3.set (x4:Int).toNat (zpa ByteArray.empty x0 x4)) (wrap64 (x4+1))) else (none)) else (none)) else (some x3)
def laws_toStringS.f (k:Nat) (l0:List ByteArray):Option (List ByteArray):=if 0≤(l0.length:Int) then (if ((l0.length:Int):Int).toNat≤17592186044416 then (laws_toStringS.l0 k l0 (List.replicate ((l0.length:Int):Int).toNat (⟨#[]⟩:ByteArray)) 0) else (none)) else (none)
theorem laws_toStringS.mono_l:∀k,(∀y0 y1 y2,LeO (laws_toStringS.l0 k y0 y1 y2) (laws_toStringS.l0 (k+1) y0 y1 y2))
 |0=>fun _ _ _ r h=>by simp [laws_toStringS.l0] at h
 |k+1=>by
  have ih0:=laws_toStringS.mono_l k
  ·intro y0 y1 y2
   unfold laws_toStringS.l0
   repeat' first
   |(with_reducible exact ih0 _ _ _)
   |(with_reducible exact LeO.refl _)
   |(with_reducible exact LeO.none _)
   |(with_reducible refine LeO.ite ?_ ?_)
   |(with_reducible refine LeO.bind ?_ (fun _=> ?_))
   |exact ih0 _ _ _
theorem laws_toStringS.mono:∀a0 k,LeO (laws_toStringS.f k a0) (laws_toStringS.f (k+1) a0):=by
 intro a0 k
 have ih0:=laws_toStringS.mono_l k
 unfold laws_toStringS.f
 repeat' first
   |(with_reducible exact ih0 _ _ _)
   |(with_reducible exact LeO.refl _)
   |(with_reducible exact LeO.none _)
   |(with_reducible refine LeO.ite ?_ ?_)
   |(with_reducible refine LeO.bind ?_ (fun _=> ?_))
   |exact ih0 _ _ _
theorem laws_toStringS.calls (k:Nat) (A0:Option Addr) (c0:Nat) (l0:List ByteArray) (r:List ByteArray) (w:World) (hr0:Kd.C Kd.string w A0 l0.length l0) (hc0:l0.length≤c0) (h:laws_toStringS.f k l0=some r):
  Calls Try.prog 57 #[.slice A0 l0.length c0] w fun e w'=>∃v0_:Value,e= .returned (v0_)∧Kd.R Kd.string 9 w' w.heap.size (fun _=>True) v0_ r∧Below w.heap.size w w':=by
 have HR0:=zz hr0
 have HC0:=zz hc0
 clear hr0 hc0
 have HB:=zz (Below.refl w.heap.size w)
 have H:(if 0≤(l0.length:Int) then (if ((l0.length:Int):Int).toNat≤17592186044416 then (laws_toStringS.l0 k l0 (List.replicate ((l0.length:Int):Int).toNat (⟨#[]⟩:ByteArray)) 0) else (none)) else (none))=some r:=h
 clear h
 by_cases c2:0≤(l0.length:Int)
 ·rw [if_pos c2] at H
  have c2b0:=eq_true c2
  have c2b1:=decide_eq_true c2
  clear c2
  by_cases c3:((l0.length:Int):Int).toNat≤17592186044416
  ·rw [if_pos c3] at H
   have c3b0:=eq_true c3
   have c3b1:=decide_eq_true c3
   clear c3
   obtain ⟨y161,hy161⟩:∃y_:List ByteArray,y_=(List.replicate ((l0.length:Int):Int).toNat (⟨#[]⟩:ByteArray)):=⟨_,rfl⟩
   replace H:(laws_toStringS.l0 k l0 y161 0)=some r:=zq8 hy161
   have Ny161:=zz hy161
   clear hy161
   have H':=zz H
   clear H
   go_enter Try.func57,Try.ntmps57
   go_wp2_with (first|((with_reducible refine zm (N:=7) rfl ?_);refine Kd.R_make Kd.string _ 9 rfl (N:=7) rfl 22 _ _ rfl (l0.length:Int) rfl rfl Try.underlying22 (.string ⟨#[]⟩) 16 info9 rfl zq26 zq11 (⟨#[]⟩:ByteArray) (ok:=fun _=>True) (okp:=fun _=>True) rfl (fun _ hk=>hk) trivial (of_decide_eq_true zq24) (Nat.le_trans (Nat.mul_le_mul_right _ (of_decide_eq_true zq24:(l0.length:Int).toNat≤17592186044416)) zq11) (Below.refl _ _) (Nat.le_refl _) ?_;intro v162 w4 ho5 hb hg_ hnew_;clear hg_ hnew_;(first|rw [←Ny161.out] at ho5|(simp only [Int.reduceToNat] at ho5;rw [←Ny161.out] at ho5));have n0_:=zz (Kd.R_lower ho5 (zc zq2));have n1_:=zz (ze zq2 hb);clear HB;have HO163:=n0_;have HB:=n1_;clear n0_ n1_;clear hb ho5))
   go_loopg [4] k (fun kq v4 w'=>∃(x3_1:List ByteArray) (x4_1:Int),v4= .int .i64 x4_1∧Z0 (laws_toStringS.l0 kq l0 x3_1 x4_1=some r)∧Z0 (kq≤k)∧Z0 (Kd.R Kd.string 9 w' w.heap.size (fun _=>True) v162 x3_1)∧Z0 (Below w.heap.size w w'))
   case atStart=>exact ⟨(y161),(0),zq16,H',⟨Nat.le_refl _⟩,⟨by (with_reducible repeat (first|apply Kd.R_alloc|apply Kd.R_drewN|apply Kd.R_drew));exact HO163.out⟩,⟨by repeat (first|(with_reducible first|exact HB.out|apply zg|apply zd|apply zk)|exact HB.out)⟩⟩
   case round=>
    clear H'
    try clear c2
    try clear c2b0
    try clear c2b1
    try clear c3
    try clear c3b0
    try clear c3b1
    obtain ⟨x3_1,x4_1,rfl,HA,HK1,HO_3,HB⟩:=hrel
    cases gk with
    |zero=>exact absurd HA.out (by simp [laws_toStringS.l0])
    |succ k1=>
     have H:=HA.out
     clear HA
     simp only [laws_toStringS.l0] at H
     by_cases c6:x4_1<(l0.length:Int)
     ·rw [if_pos c6] at H
      have c6b0:=decide_eq_true c6
      clear c6
      by_cases c7:0≤x4_1
      ·rw [if_pos c7] at H
       have c7b0:=decide_eq_true c7
       clear c7
       by_cases c8:x4_1<(x3_1.length:Int)
       ·rw [if_pos c8] at H
        have c8b0:=decide_eq_true c8
        clear c8
        obtain ⟨y165,hy165⟩:∃y_:List ByteArray,y_=(x3_1.set (x4_1:Int).toNat (zpa ByteArray.empty l0 x4_1)):=⟨_,rfl⟩
        replace H:(laws_toStringS.l0 k1 l0 y165 (wrap64 (x4_1+1)))=some r:=zq8 hy165
        have Ny165:=zz hy165
        clear hy165
        have H':=zz H
        clear H
        have p164:0≤(x4_1:Int):=of_decide_eq_true zq24
        have q164:x4_1<(l0.length:Int):=of_decide_eq_true zq24
        obtain ⟨ad164,e164,hx164_0⟩:=Kd.at_string HR0.out x4_1 p164 q164
        cases e164
        replace hx164_0:=(HB.out.cell (World.block_lt_of_cell? w _ hx164_0)).trans hx164_0
        replace p164:=eq_true p164
        replace q164:=eq_true q164
        have p9:0≤(x4_1:Int):=of_decide_eq_true zq24
        have q9:(x4_1:Int)<((x3_1.length:Int):Int):=of_decide_eq_true zq24
        obtain ⟨go9,co9,eo9,gb9,gl9,cl9,HG9⟩:=Kd.R_form HO_3.out zq11
        (first|cases eo9|(injection eo9 with ea_ en_ ec_;(first|subst ea_|(injection ea_ with ea_;subst ea_));subst ec_;clear en_))
        have GB9:=zz gb9
        have GG9:=zz HG9
        clear gb9 gl9 HG9
        obtain ⟨hx9_0,hf9_0⟩:=Kd.R_celln (⟨#[]⟩:ByteArray) HO_3.out (x4_1:Int) p9 q9
        replace p9:=eq_true p9
        replace q9:=eq_true q9
        have HP10:=Kd.R_putg HO_3.out (x4_1:Int) (zpa ByteArray.empty l0 x4_1)
        go_wp2_with (first|((with_reducible refine zv (t:=9) (p:=20) rfl ?_);refine zga (t:=9) (p:=20) (v:= ?vo_w11) (w1:=(wr.setCell ⟨go9,(x4_1:Int).toNat,none⟩ (.string (zpa ByteArray.empty l0 x4_1)))) ?hg ?ho ?hn ?hr ?_;(case ho=>rfl);(case hg=>rfl);(case hn=>rfl);(case hr=>first|(go_simp;done)|(go_simp;rfl));intro w11 hw;have hg:wr.grownBy w11 (some go9):=(by rw [hw];exact HP10.2);have hp_:Kd.R Kd.string 9 w11 w.heap.size (fun _=>True) (.slice (some ⟨go9,0,none⟩) x3_1.length co9) y165:=(by rw [hw,Ny165.out];exact HP10.1);clear HP10;have n0_:=zz (hp_);have n1_:=zz ((by rw [hw];exact zn (HB.out) GB9.out:Below w.heap.size w w11));clear HO_3;clear HB;have HO_3:=n0_;have HB:=n1_;clear n0_ n1_;clear hg hw hp_))
        go_roundg k1
        case measure=>have:=HK1.out;omega
        case rel=>exact ⟨(y165),(wrap64 (x4_1+1)),zq16,H',⟨zq95 HK1.out⟩,⟨by (with_reducible repeat (first|apply Kd.R_alloc|apply Kd.R_drewN|apply Kd.R_drew));exact HO_3.out⟩,⟨by repeat (first|(with_reducible first|exact HB.out|apply zg|apply zd|apply zk)|exact HB.out)⟩⟩
       ·rw [if_neg c8] at H
        exact absurd H zq52
      ·rw [if_neg c7] at H
       exact absurd H zq52
     ·rw [if_neg c6] at H
      have c6b0:=decide_eq_false c6
      clear c6
      obtain rfl:=Option.some.inj H
      go_wp2
      go_ret
      exact ⟨_,zq10,by (with_reducible repeat (first|apply Kd.R_alloc|apply Kd.R_drewN|apply Kd.R_drew));exact HO_3.out,by repeat (first|(with_reducible first|exact HB.out|apply zg|apply zd|apply zk)|exact HB.out)⟩
  ·rw [if_neg c3] at H
   exact absurd H zq52
 ·rw [if_neg c2] at H
  exact absurd H zq52
def laws_toPut.f (a0_0:Int) (a0_1:ByteArray):Option (Int×ByteArray):=some (a0_0,a0_1)
theorem laws_toPut.calls (a0_0:Int) (a0_1:ByteArray) (r1:Int) (r2:ByteArray) (w:World) (h:laws_toPut.f a0_0 a0_1=some (r1,r2)):
  Calls Try.prog 118 #[.agg #[.int .i64 a0_0,.string a0_1]] w fun e w'=>e= .returned (.agg #[.int .i64 r1,.string r2])∧Below w.heap.size w w':=by
 have hu140:=Try.underlying140
 have hu135:=Try.underlying135
 have HB:=zz (Below.refl w.heap.size w)
 have H:(some (a0_0,a0_1))=some (r1,r2):=h
 clear h
 simp only [Option.some.injEq,Prod.mk.injEq] at H
 obtain ⟨rfl,rfl⟩:=H
 go_enter Try.func118,Try.ntmps118
 go_wp2_with (first|((with_reducible refine zm (N:=1) rfl ?_);refine zq ?hg (N:=1) ?hd (cs:= #[.int .i64 a0_0,.string a0_1]) (t:=140) ?hr ?_;(case hd=>rfl);(case hg=>rfl);(case hr=>first|(go_simp;done)|(go_simp;rfl));intro gb166 hg w2 hbox hb;have n0_:=zz (ze zq2 hb);have n1_:=zz (hbox);have n2_:=zz ((by rw [hg];exact (zc zq2):w.heap.size≤gb166));have n3_:=zz ((by rw [hg];exact (zc zq2):w.heap.size≤gb166));clear HB;have HB:=n0_;have BK166:=n1_;have GW166:=n2_;have GE166:=n3_;clear n0_ n1_ n2_ n3_;clear hb hbox hg)|((with_reducible refine zm (N:=2) rfl ?_);refine zq ?hg (N:=2) ?hd (cs:= #[.int .i64 0,.string (⟨#[]⟩:ByteArray)]) (t:=135) ?hr ?_;(case hd=>rfl);(case hg=>rfl);(case hr=>first|(go_simp;done)|(go_simp;rfl));intro gb167 hg w3 hbox hb;have n0_:=zz (zi (g:=gb166) (o:= .cells #[.int .i64 a0_0,.string a0_1] 140 (0,0)) (zq0 BK166.out) hb);have n1_:=zz (ze (zq3 GE166.out) hb);have n2_:=zz (hbox);have n3_:=zz ((by rw [hg];exact (zc (zq3 GE166.out)):w.heap.size≤gb167));have n4_:=zz ((by rw [hg];exact (zc (zq3 GE166.out)):w.heap.size≤gb167));have n5_:=zz ((by rw [hg];exact Nat.ne_of_lt (zu (g:=gb166) (o:= .cells #[.int .i64 a0_0,.string a0_1] 140 (0,0)) (zq0 BK166.out)):gb166≠gb167));have n6_:=zz ((by rw [hg];exact Nat.ne_of_gt (zu (g:=gb166) (o:= .cells #[.int .i64 a0_0,.string a0_1] 140 (0,0)) (zq0 BK166.out)):gb167≠gb166));clear BK166;clear HB;have BK166:=n0_;have HB:=n1_;have BK167:=n2_;have GW167:=n3_;have GE167:=n4_;have NB166_167:=n5_;have NB167_166:=n6_;clear n0_ n1_ n2_ n3_ n4_ n5_ n6_;clear hb hbox hg)|((with_reducible refine zm (N:=3) rfl ?_);refine zq ?hg (N:=3) ?hd (cs:= #[.int .i64 0,.string (⟨#[]⟩:ByteArray)]) (t:=135) ?hr ?_;(case hd=>rfl);(case hg=>rfl);(case hr=>first|(go_simp;done)|(go_simp;rfl));intro gb168 hg w4 hbox hb;have n0_:=zz (zi (g:=gb166) (o:= .cells #[.int .i64 a0_0,.string a0_1] 140 (0,0)) (zq0 BK166.out) hb);have n1_:=zz (zi (g:=gb167) (o:= .cells #[.int .i64 0,.string (⟨#[]⟩:ByteArray)] 135 (0,0)) (zq0 BK167.out) hb);have n2_:=zz (ze (zq1 GE166.out GE167.out) hb);have n3_:=zz (hbox);have n4_:=zz ((by rw [hg];exact (zc (zq1 GE166.out GE167.out)):w.heap.size≤gb168));have n5_:=zz ((by rw [hg];exact (zc (zq1 GE166.out GE167.out)):w.heap.size≤gb168));have n6_:=zz ((by rw [hg];exact Nat.ne_of_lt (zu (g:=gb166) (o:= .cells #[.int .i64 a0_0,.string a0_1] 140 (0,0)) (zq0 BK166.out)):gb166≠gb168));have n7_:=zz ((by rw [hg];exact Nat.ne_of_gt (zu (g:=gb166) (o:= .cells #[.int .i64 a0_0,.string a0_1] 140 (0,0)) (zq0 BK166.out)):gb168≠gb166));have n8_:=zz ((by rw [hg];exact Nat.ne_of_lt (zu (g:=gb167) (o:= .cells #[.int .i64 0,.string (⟨#[]⟩:ByteArray)] 135 (0,0)) (zq0 BK167.out)):gb167≠gb168));have n9_:=zz ((by rw [hg];exact Nat.ne_of_gt (zu (g:=gb167) (o:= .cells #[.int .i64 0,.string (⟨#[]⟩:ByteArray)] 135 (0,0)) (zq0 BK167.out)):gb168≠gb167));clear BK166;clear BK167;clear HB;have BK166:=n0_;have BK167:=n1_;have HB:=n2_;have BK168:=n3_;have GW168:=n4_;have GE168:=n5_;have NB166_168:=n6_;have NB168_166:=n7_;have NB167_168:=n8_;have NB168_167:=n9_;clear n0_ n1_ n2_ n3_ n4_ n5_ n6_ n7_ n8_ n9_;clear hb hbox hg;have hnb5:=NB166_167.out;have hnc5:=NB167_166.out;have hnb6:=NB166_168.out;have hnc6:=NB168_166.out;have hcz7_0:w4.cell? ⟨gb166,0,none⟩=some (.int .i64 a0_0):=(zb BK166.out 0).trans rfl;have hcz7_1:w4.cell? ⟨gb166,1,none⟩=some (.string a0_1):=(zb BK166.out 1).trans rfl;have hfz7_0:=za BK166.out 0;have hfz7_1:=za BK166.out 1;have hnb8:=NB168_167.out;have hnc8:=NB167_168.out;have hcz9_0:w4.cell? ⟨gb168,0,none⟩=some (.int .i64 0):=(zb BK168.out 0).trans rfl;have hcz9_1:w4.cell? ⟨gb168,1,none⟩=some (.string (⟨#[]⟩:ByteArray)):=(zb BK168.out 1).trans rfl;have hfz9_0:=za BK168.out 0;have hfz9_1:=za BK168.out 1;have hcz10_0:w4.cell? ⟨gb167,0,none⟩=some (.int .i64 0):=(zb BK167.out 0).trans rfl;have hcz10_1:w4.cell? ⟨gb167,1,none⟩=some (.string (⟨#[]⟩:ByteArray)):=(zb BK167.out 1).trans rfl;have hfz10_0:=za BK167.out 0;have hfz10_1:=za BK167.out 1))
 refine bodyPost_ret (results_cell_row rfl _ _ gb167 135 #[.int .i64 a0_0,.string a0_1] (0,0) _ rfl (by (with_reducible repeat (first|refine zf ?_ _|refine zj ?_|refine zh ?_ _));refine zr (cs:= #[.int .i64 a0_0,.string (⟨#[]⟩:ByteArray)]) ?_ 1 _ rfl;(with_reducible repeat (first|refine zf ?_ _|refine zj ?_|refine zh ?_ _));refine zr (cs:= #[.int .i64 0,.string (⟨#[]⟩:ByteArray)]) ?_ 0 _ rfl;(with_reducible repeat (first|refine zf ?_ _|refine zj ?_|refine zh ?_ _));refine zD ?_ NB167_168.out _;(with_reducible repeat (first|refine zf ?_ _|refine zj ?_|refine zh ?_ _));refine zD ?_ NB167_168.out _;(with_reducible repeat (first|refine zf ?_ _|refine zj ?_|refine zh ?_ _));exact BK167.out) Try.underlying135 rfl zq15) rfl ?_
 exact ⟨zq10,by repeat (first|(with_reducible first|exact HB.out|apply zg|apply zd|apply zk|refine zn ?_ GE166.out|refine zn ?_ GE167.out|refine zn ?_ GE168.out)|exact HB.out)⟩
def laws_toPutS.l0:Nat→List (S140)→List (S135)→Int→Option ((List (S135)))
 |0,_,_,_=>none
 |k+1,x0,x3,x4=>if x4<(x0.length:Int) then (if 0≤x4 then ((laws_toPut.f ((zba x0 x4).f0) ((zba x0 x4).f1)).bind fun bt173=>(if x4<(x3.length:Int) then (laws_toPutS.l0 k x0 (x3.set (x4:Int).toNat (⟨bt173.1,bt173.2⟩:S135)) (wrap64 (x4+1))) else (none))) else (none)) else (some x3)
def laws_toPutS.f (k:Nat) (l0:List (S140)):Option ((List (S135))):=if 0≤(l0.length:Int) then (if ((l0.length:Int):Int).toNat≤11728124029610 then (laws_toPutS.l0 k l0 (List.replicate ((l0.length:Int):Int).toNat z135) 0) else (none)) else (none)
theorem laws_toPutS.mono_l:∀k,(∀y0 y1 y2,LeO (laws_toPutS.l0 k y0 y1 y2) (laws_toPutS.l0 (k+1) y0 y1 y2))
 |0=>fun _ _ _ r h=>by simp [laws_toPutS.l0] at h
 |k+1=>by
  have ih0:=laws_toPutS.mono_l k
  ·intro y0 y1 y2
   unfold laws_toPutS.l0
   repeat' first
   |(with_reducible exact ih0 _ _ _)
   |(with_reducible exact LeO.refl _)
   |(with_reducible exact LeO.none _)
   |(with_reducible refine LeO.ite ?_ ?_)
   |(with_reducible refine LeO.bind ?_ (fun _=> ?_))
   |exact ih0 _ _ _
theorem laws_toPutS.mono:∀a0 k,LeO (laws_toPutS.f k a0) (laws_toPutS.f (k+1) a0):=by
 intro a0 k
 have ih0:=laws_toPutS.mono_l k
 unfold laws_toPutS.f
 repeat' first
   |(with_reducible exact ih0 _ _ _)
   |(with_reducible exact LeO.refl _)
   |(with_reducible exact LeO.none _)
   |(with_reducible refine LeO.ite ?_ ?_)
   |(with_reducible refine LeO.bind ?_ (fun _=> ?_))
   |exact ih0 _ _ _
theorem laws_toPutS.calls (k:Nat) (A0:Option Addr) (c0:Nat) (l0:List (S140)) (r:List (S135)) (w:World) (hr0:Kd.C k140 w A0 l0.length l0) (hc0:l0.length≤c0) (h:laws_toPutS.f k l0=some r):
  Calls Try.prog 66 #[.slice A0 l0.length c0] w fun e w'=>∃v0_:Value,e= .returned (v0_)∧Kd.R k135 135 w' w.heap.size (fun _=>True) v0_ r∧Below w.heap.size w w':=by
 have hu140:=Try.underlying140
 have hu135:=Try.underlying135
 have HR0:=zz hr0
 have HC0:=zz hc0
 clear hr0 hc0
 have HB:=zz (Below.refl w.heap.size w)
 have H:(if 0≤(l0.length:Int) then (if ((l0.length:Int):Int).toNat≤11728124029610 then (laws_toPutS.l0 k l0 (List.replicate ((l0.length:Int):Int).toNat z135) 0) else (none)) else (none))=some r:=h
 clear h
 by_cases c2:0≤(l0.length:Int)
 ·rw [if_pos c2] at H
  have c2b0:=eq_true c2
  have c2b1:=decide_eq_true c2
  clear c2
  by_cases c3:((l0.length:Int):Int).toNat≤11728124029610
  ·rw [if_pos c3] at H
   have c3b0:=eq_true c3
   have c3b1:=decide_eq_true c3
   clear c3
   obtain ⟨y169,hy169⟩:∃y_:List (S135),y_=(List.replicate ((l0.length:Int):Int).toNat z135):=⟨_,rfl⟩
   replace H:(laws_toPutS.l0 k l0 y169 0)=some r:=zq8 hy169
   have Ny169:=zz hy169
   clear hy169
   have H':=zz H
   clear H
   go_enter Try.func66,Try.ntmps66
   go_wp2_with (first|((with_reducible refine zm (N:=7) rfl ?_);refine Kd.R_make k135 _ 135 rfl (N:=7) rfl 30 _ _ rfl (l0.length:Int) rfl rfl Try.underlying30 (.agg #[(.int .i64 0),(.string ⟨#[]⟩)]) 24 info135 rfl zq26 zq11 z135 (ok:=fun _=>True) (okp:=fun _=>True) (k135_mkM _ _ _ z135) (fun _ hk=>hk) trivial (of_decide_eq_true zq24) (Nat.le_trans (Nat.mul_le_mul_right _ (of_decide_eq_true zq24:(l0.length:Int).toNat≤11728124029610)) zq11) (Below.refl _ _) (Nat.le_refl _) ?_;intro v170 w4 ho5 hb hg_ hnew_;clear hg_ hnew_;(first|rw [←Ny169.out] at ho5|(simp only [Int.reduceToNat] at ho5;rw [←Ny169.out] at ho5));have n0_:=zz (Kd.R_lower ho5 (zc zq2));have n1_:=zz (ze zq2 hb);clear HB;have HO171:=n0_;have HB:=n1_;clear n0_ n1_;clear hb ho5))
   go_loopg [4] k (fun kq v4 w'=>∃(x3_1:List (S135)) (x4_1:Int),v4= .int .i64 x4_1∧Z0 (laws_toPutS.l0 kq l0 x3_1 x4_1=some r)∧Z0 (kq≤k)∧Z0 (Kd.R k135 135 w' w.heap.size (fun _=>True) v170 x3_1)∧Z0 (Below w.heap.size w w'))
   case atStart=>exact ⟨(y169),(0),zq16,H',⟨Nat.le_refl _⟩,⟨by (with_reducible repeat (first|apply Kd.R_alloc|apply Kd.R_drewN|apply Kd.R_drew));exact HO171.out⟩,⟨by repeat (first|(with_reducible first|exact HB.out|apply zg|apply zd|apply zk)|exact HB.out)⟩⟩
   case round=>
    clear H'
    try clear c2
    try clear c2b0
    try clear c2b1
    try clear c3
    try clear c3b0
    try clear c3b1
    obtain ⟨x3_1,x4_1,rfl,HA,HK1,HO_3,HB⟩:=hrel
    cases gk with
    |zero=>exact absurd HA.out (by simp [laws_toPutS.l0])
    |succ k1=>
     have H:=HA.out
     clear HA
     simp only [laws_toPutS.l0] at H
     by_cases c6:x4_1<(l0.length:Int)
     ·rw [if_pos c6] at H
      have c6b0:=decide_eq_true c6
      clear c6
      by_cases c7:0≤x4_1
      ·rw [if_pos c7] at H
       have c7b0:=decide_eq_true c7
       clear c7
       replace H:=Option.bind_eq_some_iff.mp H
       obtain ⟨⟨t173,t174⟩,A80,H⟩:=H
       replace H:(if x4_1<(x3_1.length:Int) then (laws_toPutS.l0 k1 l0 (x3_1.set (x4_1:Int).toNat (⟨t173,t174⟩:S135)) (wrap64 (x4_1+1))) else (none))=some r:=H
       have A8:=zz A80
       clear A80
       by_cases c9:x4_1<(x3_1.length:Int)
       ·rw [if_pos c9] at H
        have c9b0:=decide_eq_true c9
        clear c9
        obtain ⟨y175,hy175⟩:∃y_:List (S135),y_=(x3_1.set (x4_1:Int).toNat (⟨t173,t174⟩:S135)):=⟨_,rfl⟩
        replace H:(laws_toPutS.l0 k1 l0 y175 (wrap64 (x4_1+1)))=some r:=zq8 hy175
        have Ny175:=zz hy175
        clear hy175
        have H':=zz H
        clear H
        have p172:0≤(x4_1:Int):=of_decide_eq_true zq24
        have q172:x4_1<(l0.length:Int):=of_decide_eq_true zq24
        obtain ⟨ad172,e172,hx172_0,hx172_1⟩:=at_T140 HR0.out x4_1 p172 q172
        cases e172
        replace hx172_0:=(HB.out.cell (World.block_lt_of_cell? w _ hx172_0)).trans hx172_0
        replace hx172_1:=(HB.out.cell (World.block_lt_of_cell? w _ hx172_1)).trans hx172_1
        replace p172:=eq_true p172
        replace q172:=eq_true q172
        go_wp2_with (first|((with_reducible refine zo (f:=118) rfl ?_);refine zw (some 20) rfl rfl Try.func118 zq15 rfl #[.agg #[.int .i64 ((zba l0 x4_1).f0),.string ((zba l0 x4_1).f1)]] rfl zq4 ?_;(with_reducible refine (laws_toPut.calls ((zba l0 x4_1).f0) ((zba l0 x4_1).f1) t173 t174 _ A8.out).mono ?_);rintro e w11 ⟨rfl,hb⟩;refine ⟨_,rfl,?_⟩;have n0_:=zz (Kd.R_below (zq5 HO_3.out) hb);have n1_:=zz (ze zq2 hb);clear HO_3;clear HB;have HO_3:=n0_;have HB:=n1_;clear n0_ n1_;(try clear hb);(try clear hb2);(try clear hk);(try clear hi);have p10:0≤(x4_1:Int):=of_decide_eq_true zq24;have q10:(x4_1:Int)<((x3_1.length:Int):Int):=of_decide_eq_true zq24;obtain ⟨go10,co10,eo10,gb10,gl10,cl10,HG10⟩:=Kd.R_form HO_3.out zq11;(first|cases eo10|(injection eo10 with ea_ en_ ec_;(first|subst ea_|(injection ea_ with ea_;subst ea_));subst ec_;clear en_));have GB10:=zz gb10;have GG10:=zz HG10;clear gb10 gl10 HG10;obtain ⟨ce10,hcl10,hM10,hcc10,hfr10⟩:=Kd.R_elem HO_3.out z135 (x4_1:Int) p10 q10;obtain rfl:=zEa hM10;have hx10_0:w11.cell? ⟨go10,(x4_1:Int).toNat*2,none⟩=some (.int .i64 ((zx x3_1 x4_1).f0)):=hcc10 0 _ rfl;have hx10_1:w11.cell? ⟨go10,(x4_1:Int).toNat*2+1,none⟩=some (.string ((zx x3_1 x4_1).f1)):=hcc10 1 _ rfl;have hf10_0:w11.frozen? ⟨go10,(x4_1:Int).toNat*2,none⟩=false:=hfr10 0;have hf10_1:w11.frozen? ⟨go10,(x4_1:Int).toNat*2+1,none⟩=false:=hfr10 1;clear hcl10 hcc10 hfr10 hM10;replace p10:=eq_true p10;replace q10:=eq_true q10;have HX12:=zz (show Kd.R k135 135 w11 w.heap.size (fun _=>True) (.slice (some ⟨go10,0,none⟩) x3_1.length co10) x3_1 from (zq5 HO_3.out));obtain ⟨ce12,hcl12,hM12,hcc12,hfr12⟩:=Kd.R_elem HX12.out z135 (x4_1:Int) (of_decide_eq_true zq24) (zq107 HO_3.out);obtain rfl:=zEa hM12;have HP12:=Kd.R_seg HX12.out (x4_1:Int) (of_decide_eq_true zq24) (zq107 HO_3.out) (seg:=[.int .i64 t173,.string t174]) (j:=0) hcl12 hcc12 (show 2≤2 from by decide) (x':=(⟨t173,t174⟩:S135)) (k135_mkM _ _ _ (⟨t173,t174⟩:S135)) (fun _ hk=>hk);have hx12_0:=hcc12 0 _ rfl;(try simp only [show (k135).sz=2 from rfl,Nat.mul_one,Nat.add_zero] at hx12_0);have hf12_0:=hfr12 0;(try simp only [show (k135).sz=2 from rfl,Nat.mul_one,Nat.add_zero] at hf12_0);have hx12_1:=hcc12 1 _ rfl;(try simp only [show (k135).sz=2 from rfl,Nat.mul_one,Nat.add_zero] at hx12_1);have hf12_1:=hfr12 1;(try simp only [show (k135).sz=2 from rfl,Nat.mul_one,Nat.add_zero] at hf12_1);clear hcl12 hcc12 hfr12 hM12)|((with_reducible refine zv (t:=135) (p:=21) rfl ?_);refine zga (t:=135) (p:=21) (v:= ?vo_w13) (w1:=((w11.setCell ⟨go10,(x4_1:Int).toNat*2,none⟩ (.int .i64 t173)).setCell ⟨go10,(x4_1:Int).toNat*2+1,none⟩ (.string t174))) ?hg ?ho ?hn ?hr ?_;(case ho=>rfl);(case hg=>rfl);(case hn=>rfl);(case hr=>first|(go_simp;done)|(go_simp;rfl));intro w13 hw;have hg:w11.grownBy w13 (some go10):=(by rw [hw];exact HP12.2);have hp_:Kd.R k135 135 w13 w.heap.size (fun _=>True) (.slice (some ⟨go10,0,none⟩) x3_1.length co10) y175:=(by rw [hw,Ny175.out];exact HP12.1);clear HP12;have n0_:=zz (hp_);have n1_:=zz ((by rw [hw];exact zn (zn (HB.out) GB10.out) GB10.out:Below w.heap.size w w13));clear HO_3;clear HB;have HO_3:=n0_;have HB:=n1_;clear n0_ n1_;clear hg hw hp_))
        go_roundg k1
        case measure=>have:=HK1.out;omega
        case rel=>exact ⟨(y175),(wrap64 (x4_1+1)),zq16,H',⟨zq95 HK1.out⟩,⟨by (with_reducible repeat (first|apply Kd.R_alloc|apply Kd.R_drewN|apply Kd.R_drew));exact HO_3.out⟩,⟨by repeat (first|(with_reducible first|exact HB.out|apply zg|apply zd|apply zk)|exact HB.out)⟩⟩
       ·rw [if_neg c9] at H
        exact absurd H zq52
      ·rw [if_neg c7] at H
       exact absurd H zq52
     ·rw [if_neg c6] at H
      have c6b0:=decide_eq_false c6
      clear c6
      obtain rfl:=Option.some.inj H
      go_wp2
      go_ret
      exact ⟨_,zq10,by (with_reducible repeat (first|apply Kd.R_alloc|apply Kd.R_drewN|apply Kd.R_drew));exact HO_3.out,by repeat (first|(with_reducible first|exact HB.out|apply zg|apply zd|apply zk)|exact HB.out)⟩
  ·rw [if_neg c3] at H
   exact absurd H zq52
 ·rw [if_neg c2] at H
  exact absurd H zq52
def laws_toDisk.f (k:Nat) (l0_0:List ByteArray) (l0_1:List (S140)):Option (List ByteArray×(List (S135))):=(laws_toStringS.f k l0_0).bind fun t179=>((laws_toPutS.f k l0_1).bind fun t182=>(some (t179,t182)))
theorem laws_toDisk.calls (k:Nat) (A0_0:Option Addr) (c0_0:Nat) (l0_0:List ByteArray) (A0_1:Option Addr) (c0_1:Nat) (l0_1:List (S140)) (r1:List ByteArray) (r2:List (S135)) (w:World) (hr0_0:Kd.C Kd.string w A0_0 l0_0.length l0_0) (hc0_0:l0_0.length≤c0_0) (hr0_1:Kd.C k140 w A0_1 l0_1.length l0_1) (hc0_1:l0_1.length≤c0_1) (h:laws_toDisk.f k l0_0 l0_1=some (r1,r2)):
  Calls Try.prog 24 #[.agg #[.slice A0_0 l0_0.length c0_0,.slice A0_1 l0_1.length c0_1]] w fun e w'=>∃v0_ v1_:Value,e= .returned (.agg #[v0_,v1_])∧Kd.R Kd.string 9 w' w.heap.size (fun _=>True) v0_ r1∧Kd.R k135 135 w' w.heap.size (fun _=>True) v1_ r2∧Below w.heap.size w w':=by
 have hu25:=Try.underlying25
 have hu32:=Try.underlying32
 have HR0_0:=zz hr0_0
 have HC0_0:=zz hc0_0
 clear hr0_0 hc0_0
 have HR0_1:=zz hr0_1
 have HC0_1:=zz hc0_1
 clear hr0_1 hc0_1
 have HB:=zz (Below.refl w.heap.size w)
 have H:((laws_toStringS.f k l0_0).bind fun t179=>((laws_toPutS.f k l0_1).bind fun t182=>(some (t179,t182))))=some (r1,r2):=h
 clear h
 replace H:=Option.bind_eq_some_iff.mp H
 obtain ⟨t179,A20,H⟩:=H
 replace H:((laws_toPutS.f k l0_1).bind fun t182=>(some (t179,t182)))=some (r1,r2):=H
 have A2:=zz A20
 clear A20
 replace H:=Option.bind_eq_some_iff.mp H
 obtain ⟨t182,A30,H⟩:=H
 replace H:(some (t179,t182))=some (r1,r2):=H
 have A3:=zz A30
 clear A30
 simp only [Option.some.injEq,Prod.mk.injEq] at H
 obtain ⟨rfl,rfl⟩:=H
 go_enter Try.func24,Try.ntmps24
 go_wp2_with (first|((with_reducible refine zm (N:=1) rfl ?_);refine zq ?hg (N:=1) ?hd (cs:= #[.slice A0_0 l0_0.length c0_0,.slice A0_1 l0_1.length c0_1]) (t:=25) ?hr ?_;(case hd=>rfl);(case hg=>rfl);(case hr=>first|(go_simp;done)|(go_simp;rfl));intro gb176 hg w4 hbox hb;have n0_:=zz (ze zq2 hb);have n1_:=zz (hbox);have n2_:=zz ((by rw [hg];exact (zc zq2):w.heap.size≤gb176));have n3_:=zz ((by rw [hg];exact (zc zq2):w.heap.size≤gb176));clear HB;have HB:=n0_;have BK176:=n1_;have GW176:=n2_;have GE176:=n3_;clear n0_ n1_ n2_ n3_;clear hb hbox hg)|((with_reducible refine zm (N:=2) rfl ?_);refine zq ?hg (N:=2) ?hd (cs:= #[.slice none 0 0,.slice none 0 0]) (t:=32) ?hr ?_;(case hd=>rfl);(case hg=>rfl);(case hr=>first|(go_simp;done)|(go_simp;rfl));intro gb177 hg w5 hbox hb;have n0_:=zz (zi (g:=gb176) (o:= .cells #[.slice A0_0 l0_0.length c0_0,.slice A0_1 l0_1.length c0_1] 25 (0,0)) (zq0 BK176.out) hb);have n1_:=zz (ze (zq3 GE176.out) hb);have n2_:=zz (hbox);have n3_:=zz ((by rw [hg];exact (zc (zq3 GE176.out)):w.heap.size≤gb177));have n4_:=zz ((by rw [hg];exact (zc (zq3 GE176.out)):w.heap.size≤gb177));have n5_:=zz ((by rw [hg];exact Nat.ne_of_lt (zu (g:=gb176) (o:= .cells #[.slice A0_0 l0_0.length c0_0,.slice A0_1 l0_1.length c0_1] 25 (0,0)) (zq0 BK176.out)):gb176≠gb177));have n6_:=zz ((by rw [hg];exact Nat.ne_of_gt (zu (g:=gb176) (o:= .cells #[.slice A0_0 l0_0.length c0_0,.slice A0_1 l0_1.length c0_1] 25 (0,0)) (zq0 BK176.out)):gb177≠gb176));clear BK176;clear HB;have BK176:=n0_;have HB:=n1_;have BK177:=n2_;have GW177:=n3_;have GE177:=n4_;have NB176_177:=n5_;have NB177_176:=n6_;clear n0_ n1_ n2_ n3_ n4_ n5_ n6_;clear hb hbox hg)|((with_reducible refine zm (N:=3) rfl ?_);refine zq ?hg (N:=3) ?hd (cs:= #[.slice none 0 0,.slice none 0 0]) (t:=32) ?hr ?_;(case hd=>rfl);(case hg=>rfl);(case hr=>first|(go_simp;done)|(go_simp;rfl));intro gb178 hg w6 hbox hb;have n0_:=zz (zi (g:=gb176) (o:= .cells #[.slice A0_0 l0_0.length c0_0,.slice A0_1 l0_1.length c0_1] 25 (0,0)) (zq0 BK176.out) hb);have n1_:=zz (zi (g:=gb177) (o:= .cells #[.slice none 0 0,.slice none 0 0] 32 (0,0)) (zq0 BK177.out) hb);have n2_:=zz (ze (zq1 GE176.out GE177.out) hb);have n3_:=zz (hbox);have n4_:=zz ((by rw [hg];exact (zc (zq1 GE176.out GE177.out)):w.heap.size≤gb178));have n5_:=zz ((by rw [hg];exact (zc (zq1 GE176.out GE177.out)):w.heap.size≤gb178));have n6_:=zz ((by rw [hg];exact Nat.ne_of_lt (zu (g:=gb176) (o:= .cells #[.slice A0_0 l0_0.length c0_0,.slice A0_1 l0_1.length c0_1] 25 (0,0)) (zq0 BK176.out)):gb176≠gb178));have n7_:=zz ((by rw [hg];exact Nat.ne_of_gt (zu (g:=gb176) (o:= .cells #[.slice A0_0 l0_0.length c0_0,.slice A0_1 l0_1.length c0_1] 25 (0,0)) (zq0 BK176.out)):gb178≠gb176));have n8_:=zz ((by rw [hg];exact Nat.ne_of_lt (zu (g:=gb177) (o:= .cells #[.slice none 0 0,.slice none 0 0] 32 (0,0)) (zq0 BK177.out)):gb177≠gb178));have n9_:=zz ((by rw [hg];exact Nat.ne_of_gt (zu (g:=gb177) (o:= .cells #[.slice none 0 0,.slice none 0 0] 32 (0,0)) (zq0 BK177.out)):gb178≠gb177));clear BK176;clear BK177;clear HB;have BK176:=n0_;have BK177:=n1_;have HB:=n2_;have BK178:=n3_;have GW178:=n4_;have GE178:=n5_;have NB176_178:=n6_;have NB178_176:=n7_;have NB177_178:=n8_;have NB178_177:=n9_;clear n0_ n1_ n2_ n3_ n4_ n5_ n6_ n7_ n8_ n9_;clear hb hbox hg;have hnb7:=NB176_177.out;have hnc7:=NB177_176.out;have hnb8:=NB176_178.out;have hnc8:=NB178_176.out;have hcz9_0:w6.cell? ⟨gb176,0,none⟩=some (.slice A0_0 l0_0.length c0_0):=(zb BK176.out 0).trans rfl;have hcz9_1:w6.cell? ⟨gb176,1,none⟩=some (.slice A0_1 l0_1.length c0_1):=(zb BK176.out 1).trans rfl;have hfz9_0:=za BK176.out 0;have hfz9_1:=za BK176.out 1)|((with_reducible refine zo (f:=57) rfl ?_);refine zw (some 6) rfl rfl Try.func57 zq15 rfl #[.slice A0_0 l0_0.length c0_0] rfl zq4 ?_;(with_reducible refine (laws_toStringS.calls k _ _ l0_0 t179 _ ?side1 ?side2 A2.out).mono ?_);(case side1=>repeat (first|exact (Kd.C_below HR0_0.out HB.out)|(with_reducible refine Kd.C_alloc ?_ _)|(with_reducible refine Kd.C_drewN ?_ _)|(with_reducible refine Kd.C_drew ?_)));(case side2=>exact HC0_0.out);rintro e w10 ⟨v180,rfl,ho0,hb⟩;refine ⟨_,rfl,?_⟩;(first|have rs_v180:=zp (P:=Try.prog) ho0|have rs_v180:=zp (P:=Try.prog) (Kd.S_R ho0)|skip);have n0_:=zz (Kd.R_lower ho0 (zc (zq6 GE176.out GE177.out GE178.out)));have n1_:=zz (zi (g:=gb176) (o:= .cells #[.slice A0_0 l0_0.length c0_0,.slice A0_1 l0_1.length c0_1] 25 (0,0)) (zq0 BK176.out) hb);have n2_:=zz (zi (g:=gb177) (o:= .cells #[.slice none 0 0,.slice none 0 0] 32 (0,0)) (zq0 BK177.out) hb);have n3_:=zz (zi (g:=gb178) (o:= .cells #[.slice none 0 0,.slice none 0 0] 32 (0,0)) (zq0 BK178.out) hb);have n4_:=zz (ze (zq6 GE176.out GE177.out GE178.out) hb);clear BK176;clear BK177;clear BK178;clear HB;have HO181:=n0_;have BK176:=n1_;have BK177:=n2_;have BK178:=n3_;have HB:=n4_;clear n0_ n1_ n2_ n3_ n4_;(try clear hb);(try clear hb2);(try clear hk);(try clear hi);(try clear ho0);obtain ⟨Ao11,co11,eo11⟩:=Kd.R_slice HO181.out;subst eo11;have hnb12:=NB178_177.out;have hnc12:=NB177_178.out;have hcz13_0:w10.cell? ⟨gb178,0,none⟩=some (.slice none 0 0):=(zb BK178.out 0).trans rfl;have hcz13_1:w10.cell? ⟨gb178,1,none⟩=some (.slice none 0 0):=(zb BK178.out 1).trans rfl;have hfz13_0:=za BK178.out 0;have hfz13_1:=za BK178.out 1;have hcz14_0:w10.cell? ⟨gb176,0,none⟩=some (.slice A0_0 l0_0.length c0_0):=(zb BK176.out 0).trans rfl;have hcz14_1:w10.cell? ⟨gb176,1,none⟩=some (.slice A0_1 l0_1.length c0_1):=(zb BK176.out 1).trans rfl;have hfz14_0:=za BK176.out 0;have hfz14_1:=za BK176.out 1)|((with_reducible refine zo (f:=66) rfl ?_);refine zw (some 10) rfl rfl Try.func66 zq15 rfl #[.slice A0_1 l0_1.length c0_1] rfl zq4 ?_;(with_reducible refine (laws_toPutS.calls k _ _ l0_1 t182 _ ?side1 ?side2 A3.out).mono ?_);(case side1=>exact Kd.C_below HR0_1.out (zq6 GE176.out GE177.out GE178.out));(case side2=>exact HC0_1.out);rintro e w15 ⟨v183,rfl,ho0,hb⟩;refine ⟨_,rfl,?_⟩;(first|have rs_v183:=zp (P:=Try.prog) ho0|have rs_v183:=zp (P:=Try.prog) (Kd.S_R ho0)|skip);have n0_:=zz (Kd.R_below (by (with_reducible repeat (first|apply Kd.R_alloc|apply Kd.R_drewN|apply Kd.R_drew));exact (Kd.R_mono (Kd.R_far (p:=⟨gb178,0,none⟩) (Kd.R_types HO181.out BK178.out zq26) (fun _ hk=>hk.2) (.slice Ao11 t179.length co11)) (fun _ h_=>h_.1))) hb);have n1_:=zz (Kd.R_lower ho0 (zc (zq6 GE176.out GE177.out GE178.out)));have n2_:=zz (zi (g:=gb176) (o:= .cells #[.slice A0_0 l0_0.length c0_0,.slice A0_1 l0_1.length c0_1] 25 (0,0)) (zq56 NB176_178.out BK176.out) hb);have n3_:=zz (zi (g:=gb177) (o:= .cells #[.slice none 0 0,.slice none 0 0] 32 (0,0)) (zq56 NB177_178.out BK177.out) hb);have n4_:=zz (zi (g:=gb178) (o:= .cells #[.slice Ao11 t179.length co11,.slice none 0 0] 32 (0,0)) (by (with_reducible repeat (first|refine zf ?_ _|refine zj ?_|refine zh ?_ _));refine zr (cs:= #[.slice none 0 0,.slice none 0 0]) ?_ 0 _ rfl;(with_reducible repeat (first|refine zf ?_ _|refine zj ?_|refine zh ?_ _));exact BK178.out) hb);have n5_:=zz (ze (zq6 GE176.out GE177.out GE178.out) hb);clear HO181;clear BK176;clear BK177;clear BK178;clear HB;have HO181:=n0_;have HO184:=n1_;have BK176:=n2_;have BK177:=n3_;have BK178:=n4_;have HB:=n5_;clear n0_ n1_ n2_ n3_ n4_ n5_;(try clear hb);(try clear hb2);(try clear hk);(try clear hi);(try clear ho0);obtain ⟨Ao16,co16,eo16⟩:=Kd.R_slice HO184.out;subst eo16;have hcz17_0:w15.cell? ⟨gb178,0,none⟩=some (.slice Ao11 t179.length co11):=(zb BK178.out 0).trans rfl;have hcz17_1:w15.cell? ⟨gb178,1,none⟩=some (.slice none 0 0):=(zb BK178.out 1).trans rfl;have hfz17_0:=za BK178.out 0;have hfz17_1:=za BK178.out 1;have hcz18_0:w15.cell? ⟨gb177,0,none⟩=some (.slice none 0 0):=(zb BK177.out 0).trans rfl;have hcz18_1:w15.cell? ⟨gb177,1,none⟩=some (.slice none 0 0):=(zb BK177.out 1).trans rfl;have hfz18_0:=za BK177.out 0;have hfz18_1:=za BK177.out 1))
 refine bodyPost_ret (results_cell_row rfl _ _ gb177 32 #[.slice Ao11 t179.length co11,.slice Ao16 t182.length co16] (0,0) _ rfl (by (with_reducible repeat (first|refine zf ?_ _|refine zj ?_|refine zh ?_ _));refine zr (cs:= #[.slice Ao11 t179.length co11,.slice none 0 0]) ?_ 1 _ rfl;(with_reducible repeat (first|refine zf ?_ _|refine zj ?_|refine zh ?_ _));refine zr (cs:= #[.slice none 0 0,.slice none 0 0]) ?_ 0 _ rfl;(with_reducible repeat (first|refine zf ?_ _|refine zj ?_|refine zh ?_ _));refine zD ?_ NB177_178.out _;(with_reducible repeat (first|refine zf ?_ _|refine zj ?_|refine zh ?_ _));exact BK177.out) Try.underlying32 rfl zq15) rfl ?_
 exact ⟨_,_,zq10,zq66 HO181.out BK178.out BK177.out,zq66 HO184.out BK178.out BK177.out,by repeat (first|(with_reducible first|exact HB.out|apply zg|apply zd|apply zk|refine zn ?_ GE176.out|refine zn ?_ GE177.out|refine zn ?_ GE178.out)|exact HB.out)⟩
def laws_toIntS.l0:Nat→List Int→List Int→Int→Option (List Int)
 |0,_,_,_=>none
 |k+1,x0,x3,x4=>if x4<(x0.length:Int) then (if 0≤x4 then (if x4<(x3.length:Int) then (laws_toIntS.l0 k x0 (x3.set (x4:Int).toNat (rd x0 x4)) (wrap64 (x4+1))) else (none)) else (none)) else (some x3)
def laws_toIntS.f (k:Nat) (l0:List Int):Option (List Int):=if 0≤(l0.length:Int) then (if ((l0.length:Int):Int).toNat≤35184372088832 then (laws_toIntS.l0 k l0 (List.replicate ((l0.length:Int):Int).toNat 0) 0) else (none)) else (none)
theorem laws_toIntS.mono_l:∀k,(∀y0 y1 y2,LeO (laws_toIntS.l0 k y0 y1 y2) (laws_toIntS.l0 (k+1) y0 y1 y2))
 |0=>fun _ _ _ r h=>by simp [laws_toIntS.l0] at h
 |k+1=>by
  have ih0:=laws_toIntS.mono_l k
  ·intro y0 y1 y2
   unfold laws_toIntS.l0
   repeat' first
   |(with_reducible exact ih0 _ _ _)
   |(with_reducible exact LeO.refl _)
   |(with_reducible exact LeO.none _)
   |(with_reducible refine LeO.ite ?_ ?_)
   |(with_reducible refine LeO.bind ?_ (fun _=> ?_))
   |exact ih0 _ _ _
theorem laws_toIntS.mono:∀a0 k,LeO (laws_toIntS.f k a0) (laws_toIntS.f (k+1) a0):=by
 intro a0 k
 have ih0:=laws_toIntS.mono_l k
 unfold laws_toIntS.f
 repeat' first
   |(with_reducible exact ih0 _ _ _)
   |(with_reducible exact LeO.refl _)
   |(with_reducible exact LeO.none _)
   |(with_reducible refine LeO.ite ?_ ?_)
   |(with_reducible refine LeO.bind ?_ (fun _=> ?_))
   |exact ih0 _ _ _
theorem laws_toIntS.calls (k:Nat) (A0:Option Addr) (c0:Nat) (l0:List Int) (r:List Int) (w:World) (hr0:Kd.C (Kd.int .i64) w A0 l0.length l0) (hc0:l0.length≤c0) (h:laws_toIntS.f k l0=some r):
  Calls Try.prog 48 #[.slice A0 l0.length c0] w fun e w'=>∃v0_:Value,e= .returned (v0_)∧Kd.R (Kd.int .i64) 3 w' w.heap.size (fun _=>True) v0_ r∧Below w.heap.size w w':=by
 have HR0:=zz hr0
 have HC0:=zz hc0
 clear hr0 hc0
 have HB:=zz (Below.refl w.heap.size w)
 have H:(if 0≤(l0.length:Int) then (if ((l0.length:Int):Int).toNat≤35184372088832 then (laws_toIntS.l0 k l0 (List.replicate ((l0.length:Int):Int).toNat 0) 0) else (none)) else (none))=some r:=h
 clear h
 by_cases c2:0≤(l0.length:Int)
 ·rw [if_pos c2] at H
  have c2b0:=eq_true c2
  have c2b1:=decide_eq_true c2
  clear c2
  by_cases c3:((l0.length:Int):Int).toNat≤35184372088832
  ·rw [if_pos c3] at H
   have c3b0:=eq_true c3
   have c3b1:=decide_eq_true c3
   clear c3
   obtain ⟨y185,hy185⟩:∃y_:List Int,y_=(List.replicate ((l0.length:Int):Int).toNat 0):=⟨_,rfl⟩
   replace H:(laws_toIntS.l0 k l0 y185 0)=some r:=zq8 hy185
   have Ny185:=zz hy185
   clear hy185
   have H':=zz H
   clear H
   go_enter Try.func48,Try.ntmps48
   go_wp2_with (first|((with_reducible refine zm (N:=7) rfl ?_);refine Kd.R_make (Kd.int .i64) _ 3 rfl (N:=7) rfl 26 _ _ rfl (l0.length:Int) rfl rfl Try.underlying26 (.int .i64 0) 8 info3 rfl zq26 zq11 0 (ok:=fun _=>True) (okp:=fun _=>True) rfl (fun _ hk=>hk) trivial (of_decide_eq_true zq24) (Nat.le_trans (Nat.mul_le_mul_right _ (of_decide_eq_true zq24:(l0.length:Int).toNat≤35184372088832)) zq11) (Below.refl _ _) (Nat.le_refl _) ?_;intro v186 w4 ho5 hb hg_ hnew_;clear hg_ hnew_;(first|rw [←Ny185.out] at ho5|(simp only [Int.reduceToNat] at ho5;rw [←Ny185.out] at ho5));have n0_:=zz (Kd.R_lower ho5 (zc zq2));have n1_:=zz (ze zq2 hb);clear HB;have HO187:=n0_;have HB:=n1_;clear n0_ n1_;clear hb ho5))
   go_loopg [4] k (fun kq v4 w'=>∃(x3_1:List Int) (x4_1:Int),v4= .int .i64 x4_1∧Z0 (laws_toIntS.l0 kq l0 x3_1 x4_1=some r)∧Z0 (kq≤k)∧Z0 (Kd.R (Kd.int .i64) 3 w' w.heap.size (fun _=>True) v186 x3_1)∧Z0 (Below w.heap.size w w'))
   case atStart=>exact ⟨(y185),(0),zq16,H',⟨Nat.le_refl _⟩,⟨by (with_reducible repeat (first|apply Kd.R_alloc|apply Kd.R_drewN|apply Kd.R_drew));exact HO187.out⟩,⟨by repeat (first|(with_reducible first|exact HB.out|apply zg|apply zd|apply zk)|exact HB.out)⟩⟩
   case round=>
    clear H'
    try clear c2
    try clear c2b0
    try clear c2b1
    try clear c3
    try clear c3b0
    try clear c3b1
    obtain ⟨x3_1,x4_1,rfl,HA,HK1,HO_3,HB⟩:=hrel
    cases gk with
    |zero=>exact absurd HA.out (by simp [laws_toIntS.l0])
    |succ k1=>
     have H:=HA.out
     clear HA
     simp only [laws_toIntS.l0] at H
     by_cases c6:x4_1<(l0.length:Int)
     ·rw [if_pos c6] at H
      have c6b0:=decide_eq_true c6
      clear c6
      by_cases c7:0≤x4_1
      ·rw [if_pos c7] at H
       have c7b0:=decide_eq_true c7
       clear c7
       by_cases c8:x4_1<(x3_1.length:Int)
       ·rw [if_pos c8] at H
        have c8b0:=decide_eq_true c8
        clear c8
        obtain ⟨y189,hy189⟩:∃y_:List Int,y_=(x3_1.set (x4_1:Int).toNat (rd l0 x4_1)):=⟨_,rfl⟩
        replace H:(laws_toIntS.l0 k1 l0 y189 (wrap64 (x4_1+1)))=some r:=zq8 hy189
        have Ny189:=zz hy189
        clear hy189
        have H':=zz H
        clear H
        have p188:0≤(x4_1:Int):=of_decide_eq_true zq24
        have q188:x4_1<(l0.length:Int):=of_decide_eq_true zq24
        obtain ⟨ad188,e188,hx188_0⟩:=Kd.at_int HR0.out x4_1 p188 q188
        cases e188
        replace hx188_0:=(HB.out.cell (World.block_lt_of_cell? w _ hx188_0)).trans hx188_0
        replace p188:=eq_true p188
        replace q188:=eq_true q188
        have p9:0≤(x4_1:Int):=of_decide_eq_true zq24
        have q9:(x4_1:Int)<((x3_1.length:Int):Int):=of_decide_eq_true zq24
        obtain ⟨go9,co9,eo9,gb9,gl9,cl9,HG9⟩:=Kd.R_form HO_3.out zq11
        (first|cases eo9|(injection eo9 with ea_ en_ ec_;(first|subst ea_|(injection ea_ with ea_;subst ea_));subst ec_;clear en_))
        have GB9:=zz gb9
        have GG9:=zz HG9
        clear gb9 gl9 HG9
        obtain ⟨hx9_0,hf9_0⟩:=Kd.R_celln 0 HO_3.out (x4_1:Int) p9 q9
        replace p9:=eq_true p9
        replace q9:=eq_true q9
        have HP10:=Kd.R_putg HO_3.out (x4_1:Int) (rd l0 x4_1)
        go_wp2_with (first|((with_reducible refine zv (t:=3) (p:=20) rfl ?_);refine zga (t:=3) (p:=20) (v:= ?vo_w11) (w1:=(wr.setCell ⟨go9,(x4_1:Int).toNat,none⟩ (.int .i64 (rd l0 x4_1)))) ?hg ?ho ?hn ?hr ?_;(case ho=>rfl);(case hg=>rfl);(case hn=>rfl);(case hr=>first|(go_simp;done)|(go_simp;rfl));intro w11 hw;have hg:wr.grownBy w11 (some go9):=(by rw [hw];exact HP10.2);have hp_:Kd.R (Kd.int .i64) 3 w11 w.heap.size (fun _=>True) (.slice (some ⟨go9,0,none⟩) x3_1.length co9) y189:=(by rw [hw,Ny189.out];exact HP10.1);clear HP10;have n0_:=zz (hp_);have n1_:=zz ((by rw [hw];exact zn (HB.out) GB9.out:Below w.heap.size w w11));clear HO_3;clear HB;have HO_3:=n0_;have HB:=n1_;clear n0_ n1_;clear hg hw hp_))
        go_roundg k1
        case measure=>have:=HK1.out;omega
        case rel=>exact ⟨(y189),(wrap64 (x4_1+1)),zq16,H',⟨zq95 HK1.out⟩,⟨by (with_reducible repeat (first|apply Kd.R_alloc|apply Kd.R_drewN|apply Kd.R_drew));exact HO_3.out⟩,⟨by repeat (first|(with_reducible first|exact HB.out|apply zg|apply zd|apply zk)|exact HB.out)⟩⟩
       ·rw [if_neg c8] at H
        exact absurd H zq52
      ·rw [if_neg c7] at H
       exact absurd H zq52
     ·rw [if_neg c6] at H
      have c6b0:=decide_eq_false c6
      clear c6
      obtain rfl:=Option.some.inj H
      go_wp2
      go_ret
      exact ⟨_,zq10,by (with_reducible repeat (first|apply Kd.R_alloc|apply Kd.R_drewN|apply Kd.R_drew));exact HO_3.out,by repeat (first|(with_reducible first|exact HB.out|apply zg|apply zd|apply zk)|exact HB.out)⟩
  ·rw [if_neg c3] at H
   exact absurd H zq52
 ·rw [if_neg c2] at H
  exact absurd H zq52
def slices_Clone_int_int.f (l0:List Int):Option (List Int):=if l0.length<17592186044416 then some l0 else none
theorem slices_Clone_int_int.calls (A0:Option Addr) (c0:Nat) (l0:List Int) (r:List Int) (w:World) (hr0:Kd.C (Kd.int .i64) w A0 l0.length l0) (hc0:l0.length≤c0) (h:slices_Clone_int_int.f l0=some r):
  Calls Try.prog 95 #[.slice A0 l0.length c0] w fun e w'=>∃v0_:Value,e= .returned v0_∧Kd.R (Kd.int .i64) 3 w' w.heap.size (fun _=>True) v0_ r∧Below w.heap.size w w':=by
 unfold slices_Clone_int_int.f at h
 split at h
 ·rename_i hlim
  obtain rfl:=Option.some.inj h
  cases A0 with
  |none=>
   have hz:l0=[]:=by
    rcases Nat.eq_zero_or_pos l0.length with h0|h0
    ·exact List.eq_nil_of_length_eq_zero h0
    ·obtain ⟨_,h1,_⟩:=hr0.2.2 h0
     cases h1
   subst hz
   clear hr0 hlim h hc0
   have q:=fun (w:World) (n c n' c':Nat)=>Lib.run_eql_slice_nil (P:=Try.prog) w 26 3 none n c n' c' Try.underlying26
   go_enter Try.func95,Try.ntmps95
   go_wp2
   go_ret
   exact ⟨_,rfl,Kd.R_nil _ _ _ _ _,Below.refl _ _⟩
  |some ad=>
   have HR:=zz hr0
   have HL:=zz hlim
   clear hr0 hc0 h hlim
   have q:=fun (w:World) (a:Addr) (n c n' c':Nat)=>Lib.run_eql_slice_nil (P:=Try.prog) w 26 3 (some a) n c n' c' Try.underlying26
   go_enter Try.func95,Try.ntmps95
   go_wp2_with (at_builtin;refine Kd.R_append_rows (Kd.int .i64) (w0:=w) (Rr:=Kd.K (Kd.int .i64) (w.alloc (.cells #[] 3))) w.heap.size rfl (.tmp 5) (.tmp 6) 26 3 (.int .i64 0) 8 rfl Try.underlying26 info3 rfl zq26 zq26 (.slice (some ⟨w.heap.size,0,none⟩) 0 0) [] l0 (some ad) l0.length c0 (fun _=>True) (fun _=>False) rfl rfl ⟨fun _ _=>trivial,[],World.ownsRow_made w #[] 0 (Nat.le_refl _) zq26 zq52,Reps.none _ _⟩ (Kd.C_below HR.out (zg (Below.refl _ _) _)) (fun _ _ hk=>hk) (fun _ hk=>hk.elim) (fun _ _=>trivial) (zg (Below.refl _ _) _) zq52 (by have:=HL.out;simp only [List.length_nil];omega) ?_;intro v1 w1 hR hB _ _;have H1:=zz hR;have H2:=zz hB;clear hR hB)
   go_ret
   exact ⟨_,rfl,H1.out,H2.out⟩
 ·cases h
def slices_Clone_string_string.f (l0:List ByteArray):Option (List ByteArray):=if l0.length<8796093022208 then some l0 else none
theorem slices_Clone_string_string.calls (A0:Option Addr) (c0:Nat) (l0:List ByteArray) (r:List ByteArray) (w:World) (hr0:Kd.C Kd.string w A0 l0.length l0) (hc0:l0.length≤c0) (h:slices_Clone_string_string.f l0=some r):
  Calls Try.prog 126 #[.slice A0 l0.length c0] w fun e w'=>∃v0_:Value,e= .returned v0_∧Kd.R Kd.string 9 w' w.heap.size (fun _=>True) v0_ r∧Below w.heap.size w w':=by
 unfold slices_Clone_string_string.f at h
 split at h
 ·rename_i hlim
  obtain rfl:=Option.some.inj h
  cases A0 with
  |none=>
   have hz:l0=[]:=by
    rcases Nat.eq_zero_or_pos l0.length with h0|h0
    ·exact List.eq_nil_of_length_eq_zero h0
    ·obtain ⟨_,h1,_⟩:=hr0.2.2 h0
     cases h1
   subst hz
   clear hr0 hlim h hc0
   have q:=fun (w:World) (n c n' c':Nat)=>Lib.run_eql_slice_nil (P:=Try.prog) w 22 9 none n c n' c' Try.underlying22
   go_enter Try.func126,Try.ntmps126
   go_wp2
   go_ret
   exact ⟨_,rfl,Kd.R_nil _ _ _ _ _,Below.refl _ _⟩
  |some ad=>
   have HR:=zz hr0
   have HL:=zz hlim
   clear hr0 hc0 h hlim
   have q:=fun (w:World) (a:Addr) (n c n' c':Nat)=>Lib.run_eql_slice_nil (P:=Try.prog) w 22 9 (some a) n c n' c' Try.underlying22
   go_enter Try.func126,Try.ntmps126
   go_wp2_with (at_builtin;refine Kd.R_append_rows Kd.string (w0:=w) (Rr:=Kd.K Kd.string (w.alloc (.cells #[] 9))) w.heap.size rfl (.tmp 5) (.tmp 6) 22 9 (.string ⟨#[]⟩) 16 rfl Try.underlying22 info9 rfl zq26 zq26 (.slice (some ⟨w.heap.size,0,none⟩) 0 0) [] l0 (some ad) l0.length c0 (fun _=>True) (fun _=>False) rfl rfl ⟨fun _ _=>trivial,[],World.ownsRow_made w #[] 0 (Nat.le_refl _) zq26 zq52,Reps.none _ _⟩ (Kd.C_below HR.out (zg (Below.refl _ _) _)) (fun _ _ hk=>hk) (fun _ hk=>hk.elim) (fun _ _=>trivial) (zg (Below.refl _ _) _) zq52 (by have:=HL.out;simp only [List.length_nil];omega) ?_;intro v1 w1 hR hB _ _;have H1:=zz hR;have H2:=zz hB;clear hR hB)
   go_ret
   exact ⟨_,rfl,H1.out,H2.out⟩
 ·cases h
def impl_Put.f (l0:List S135):Option (List S135):=if l0.length<5864062014805 then some l0 else none
theorem impl_Put.calls (A0:Option Addr) (c0:Nat) (l0:List S135) (r:List S135) (w:World) (hr0:Kd.C k135 w A0 l0.length l0) (hc0:l0.length≤c0) (h:impl_Put.f l0=some r):
  Calls Try.prog 127 #[.slice A0 l0.length c0] w fun e w'=>∃v0_:Value,e= .returned v0_∧Kd.R k135 135 w' w.heap.size (fun _=>True) v0_ r∧Below w.heap.size w w':=by
 unfold impl_Put.f at h
 split at h
 ·rename_i hlim
  obtain rfl:=Option.some.inj h
  cases A0 with
  |none=>
   have hz:l0=[]:=by
    rcases Nat.eq_zero_or_pos l0.length with h0|h0
    ·exact List.eq_nil_of_length_eq_zero h0
    ·obtain ⟨_,h1,_⟩:=hr0.2.2 h0
     cases h1
   subst hz
   clear hr0 hlim h hc0
   have q:=fun (w:World) (n c n' c':Nat)=>Lib.run_eql_slice_nil (P:=Try.prog) w 30 135 none n c n' c' Try.underlying30
   go_enter Try.func127,Try.ntmps127
   go_wp2
   go_ret
   exact ⟨_,rfl,Kd.R_nil _ _ _ _ _,Below.refl _ _⟩
  |some ad=>
   have HR:=zz hr0
   have HL:=zz hlim
   clear hr0 hc0 h hlim
   have q:=fun (w:World) (a:Addr) (n c n' c':Nat)=>Lib.run_eql_slice_nil (P:=Try.prog) w 30 135 (some a) n c n' c' Try.underlying30
   go_enter Try.func127,Try.ntmps127
   go_wp2_with (at_builtin;refine Kd.R_append_rows k135 (w0:=w) (Rr:=Kd.K k135 (w.alloc (.cells #[] 135))) w.heap.size rfl (.tmp 5) (.tmp 6) 30 135 (.agg #[.int .i64 0,.string ⟨#[]⟩]) 24 rfl Try.underlying30 info135 rfl zq26 zq26 (.slice (some ⟨w.heap.size,0,none⟩) 0 0) [] l0 (some ad) l0.length c0 (fun _=>True) (fun _=>False) rfl rfl ⟨fun _ _=>trivial,[],World.ownsRow_made w #[] 0 (Nat.le_refl _) zq26 zq52,Reps.none _ _⟩ (Kd.C_below HR.out (zg (Below.refl _ _) _)) (fun _ _ hk=>hk) (fun _ hk=>hk.elim) (fun _ _=>trivial) (zg (Below.refl _ _) _) zq52 (by have:=HL.out;simp only [List.length_nil];omega) ?_;intro v1 w1 hR hB _ _;have H1:=zz hR;have H2:=zz hB;clear hR hB)
   go_ret
   exact ⟨_,rfl,H1.out,H2.out⟩
 ·cases h
def impl_cloneDisk.f (l0_0:List ByteArray) (l0_1:List (S135)):Option (List ByteArray×(List (S135))):=(slices_Clone_string_string.f l0_0).bind fun t210=>((impl_Put.f l0_1).bind fun t213=>(some (t210,t213)))
def impl_cloneDisk.T1:Bool×List (List Nat×List Nat):=(true,[([],[]),([0],[0]),([1],[1]),([],[]),([3],[3]),([4,2],[4]),([2,5],[2,5]),([6,5,0,1,2,3,4,5,6],[6])])
def impl_cloneDisk.B1:List Nat:=[0,1,3,0,8,31,63,127]
theorem impl_cloneDisk.tab1:rtab .any (opsOf Try.f69 1)=impl_cloneDisk.T1:=zq15
theorem impl_cloneDisk.bits1:zza impl_cloneDisk.T1.2 impl_cloneDisk.B1=true:=zq15
theorem impl_cloneDisk.calls (A0_0:Option Addr) (c0_0:Nat) (l0_0:List ByteArray) (A0_1:Option Addr) (c0_1:Nat) (l0_1:List (S135)) (r1:List ByteArray) (r2:List (S135)) (w:World) (hr0_0:Kd.C Kd.string w A0_0 l0_0.length l0_0) (hc0_0:l0_0.length≤c0_0) (hr0_1:Kd.C k135 w A0_1 l0_1.length l0_1) (hc0_1:l0_1.length≤c0_1) (h:impl_cloneDisk.f l0_0 l0_1=some (r1,r2)):
  Calls Try.prog 69 #[.agg #[.slice A0_0 l0_0.length c0_0,.slice A0_1 l0_1.length c0_1]] w fun e w'=>∃v0_ v1_:Value,e= .returned (.agg #[v0_,v1_])∧Kd.R Kd.string 9 w' w.heap.size (fun _=>True) v0_ r1∧Kd.R k135 135 w' w.heap.size (fun _=>True) v1_ r2∧Below w.heap.size w w':=by
 have hu32:=Try.underlying32
 have HR0_0:=zz hr0_0
 have HC0_0:=zz hc0_0
 clear hr0_0 hc0_0
 have HR0_1:=zz hr0_1
 have HC0_1:=zz hc0_1
 clear hr0_1 hc0_1
 have HB:=zz (Below.refl w.heap.size w)
 have H:((slices_Clone_string_string.f l0_0).bind fun t210=>((impl_Put.f l0_1).bind fun t213=>(some (t210,t213))))=some (r1,r2):=h
 clear h
 replace H:=Option.bind_eq_some_iff.mp H
 obtain ⟨t210,A20,H⟩:=H
 replace H:((impl_Put.f l0_1).bind fun t213=>(some (t210,t213)))=some (r1,r2):=H
 have A2:=zz A20
 clear A20
 replace H:=Option.bind_eq_some_iff.mp H
 obtain ⟨t213,A30,H⟩:=H
 replace H:(some (t210,t213))=some (r1,r2):=H
 have A3:=zz A30
 clear A30
 simp only [Option.some.injEq,Prod.mk.injEq] at H
 obtain ⟨rfl,rfl⟩:=H
 go_enter Try.func69,Try.ntmps69
 try go_wp2_with (first|((with_reducible refine zm (N:=1) rfl ?_);refine zq ?hg (N:=1) ?hd (cs:= #[.slice A0_0 l0_0.length c0_0,.slice A0_1 l0_1.length c0_1]) (t:=32) ?hr ?_;(case hd=>rfl);(case hg=>rfl);(case hr=>first|(go_simp;done)|(go_simp;rfl));intro gb208 hg w4 hbox hb;have n0_:=zz (ze zq2 hb);have n1_:=zz (hbox);have n2_:=zz ((by rw [hg];exact (zc zq2):w.heap.size≤gb208));have n3_:=zz ((by rw [hg];exact (zc zq2):w.heap.size≤gb208));clear HB;have HB:=n0_;have BK208:=n1_;have GW208:=n2_;have GE208:=n3_;clear n0_ n1_ n2_ n3_;clear hb hbox hg)|((with_reducible refine zm (N:=2) rfl ?_);refine zq ?hg (N:=2) ?hd (cs:= #[.slice none 0 0,.slice none 0 0]) (t:=32) ?hr ?_;(case hd=>rfl);(case hg=>rfl);(case hr=>first|(go_simp;done)|(go_simp;rfl));intro gb209 hg w5 hbox hb;have n0_:=zz (zi (g:=gb208) (o:= .cells #[.slice A0_0 l0_0.length c0_0,.slice A0_1 l0_1.length c0_1] 32 (0,0)) (zq0 BK208.out) hb);have n1_:=zz (ze (zq3 GE208.out) hb);have n2_:=zz (hbox);have n3_:=zz ((by rw [hg];exact (zc (zq3 GE208.out)):w.heap.size≤gb209));have n4_:=zz ((by rw [hg];exact (zc (zq3 GE208.out)):w.heap.size≤gb209));have n5_:=zz ((by rw [hg];exact Nat.ne_of_lt (zu (g:=gb208) (o:= .cells #[.slice A0_0 l0_0.length c0_0,.slice A0_1 l0_1.length c0_1] 32 (0,0)) (zq0 BK208.out)):gb208≠gb209));have n6_:=zz ((by rw [hg];exact Nat.ne_of_gt (zu (g:=gb208) (o:= .cells #[.slice A0_0 l0_0.length c0_0,.slice A0_1 l0_1.length c0_1] 32 (0,0)) (zq0 BK208.out)):gb209≠gb208));clear BK208;clear HB;have BK208:=n0_;have HB:=n1_;have BK209:=n2_;have GW209:=n3_;have GE209:=n4_;have NB208_209:=n5_;have NB209_208:=n6_;clear n0_ n1_ n2_ n3_ n4_ n5_ n6_;clear hb hbox hg))
 have n0_:=zz (zj BK208.out)
 have n1_:=zz (zj BK209.out)
 have n2_:=zz (zk HB.out)
 clear BK208
 clear BK209
 clear HB
 have BK208:=n0_
 have BK209:=n1_
 have HB:=n2_
 clear n0_ n1_ n2_
 refine start_ (n:=8) (S:=fun w'=>w'.cell? ⟨gb208,0,none⟩=some (.slice A0_0 l0_0.length c0_0)∧w'.cell? ⟨gb208,1,none⟩=some (.slice A0_1 l0_1.length c0_1)) (ds:=[]) #[false,false,false,false,false,false,false,false] zq15 rfl rfl ⟨(zb BK208.out 0).trans rfl,(zb BK208.out 1).trans rfl⟩ (fun hHeld=> ?_);refine zXa impl_cloneDisk.tab1 impl_cloneDisk.bits1 (fun HT_ HW_=> ?_)
 generalize w5.drew=w6 at BK208 BK209 HB hHeld ⊢
 refine zca (i:=0) (N:=some 3) (v:= ?_) (a':= ?_) #[true,false,false,false,false,false,false,false] rfl rfl (zV HT_.out zq15) (fun _ _ _ h=>h) (Or.inl ⟨zq44,zq27⟩) zq12 ?_
 refine zca (i:=3) (N:=some 6) (v:= ?_) (a':= ?_) #[true,false,false,true,false,false,false,false] rfl rfl (zV HT_.out zq15) (fun _ _ _ h=>h) (Or.inl ⟨zq44,zq27⟩) zq12 ?_
 refine take_ (i:=1) (N:=some 4) (v:= ?_) (a':= ?_) #[true,true,false,true,false,false,false,false] rfl rfl (zaa HT_.out HW_.out zq15) (fun _ _ _ h=>h) (Or.inl ⟨zq44,zq117⟩) hHeld zq12 ?_
 refine take_ (i:=4) (N:=some 7) (v:= ?_) (a':= ?_) #[true,true,false,true,true,false,false,false] rfl rfl (zaa HT_.out HW_.out zq15) (fun _ _ _ h=>h) (Or.inl ⟨zq44,zq117⟩) hHeld zq12 ?_
 refine one_ (i:=2) (N:=some 5) #[true,true,true,true,true,false,false,false] rfl rfl (zoa HT_.out zq15) zq26 (fun K hK=> ?_)
 refine goes_ Try.func126 zq15 rfl #[.slice A0_0 l0_0.length c0_0] zq44 rfl rfl zq4 ?_
 with_reducible refine (slices_Clone_string_string.calls _ _ l0_0 t210 _ ?side1 ?side2 A2.out).mono ?_
 (case side1=>repeat (first|exact (Kd.C_below HR0_0.out HB.out)|(with_reducible refine Kd.C_alloc ?_ _)|(with_reducible refine Kd.C_drewN ?_ _)|(with_reducible refine Kd.C_drew ?_)))
 (case side2=>exact HC0_0.out)
 rintro e w7 ⟨v211,rfl,ho0,hb⟩
 refine ⟨_,rfl,?_⟩
 have n0_:=zz (Kd.R_lower ho0 (zc (zq1 GE208.out GE209.out)))
 have n1_:=zz (zi (g:=gb208) (o:= .cells #[.slice A0_0 l0_0.length c0_0,.slice A0_1 l0_1.length c0_1] 32 (0,0)) (zq0 BK208.out) hb)
 have n2_:=zz (zi (g:=gb209) (o:= .cells #[.slice none 0 0,.slice none 0 0] 32 (0,0)) (zq0 BK209.out) hb)
 have n3_:=zz (ze (zq1 GE208.out GE209.out) hb)
 clear BK208
 clear BK209
 clear HB
 have HO212:=n0_
 have BK208:=n1_
 have BK209:=n2_
 have HB:=n3_
 clear n0_ n1_ n2_ n3_
 (try clear hb)
 (try clear hb2)
 (try clear hk)
 (try clear hi)
 (try clear ho0)
 refine hK.out _ _ ⟨(zb BK208.out 0).trans rfl,(zb BK208.out 1).trans rfl⟩ (fun hHeld=> ?_)
 clear hK K
 refine zAa (a':= ?_) ?_ ?_
 rotate_left
 ·show Act.put _ (some 5) _=_
  simp only [Act.put,List.setIfInBounds_toArray,List.set_cons_zero,List.set_cons_succ,zfa,zOa]
  rfl
 refine one_ (i:=5) (N:=some 8) #[true,true,true,true,true,true,false,false] rfl rfl (zoa HT_.out zq15) zq26 (fun K hK=> ?_)
 refine goes_ Try.func127 zq15 rfl #[.slice A0_1 l0_1.length c0_1] zq44 rfl rfl zq4 ?_
 with_reducible refine (impl_Put.calls _ _ l0_1 t213 _ ?side1 ?side2 A3.out).mono ?_
 (case side1=>repeat (first|exact (Kd.C_below HR0_1.out HB.out)|(with_reducible refine Kd.C_alloc ?_ _)|(with_reducible refine Kd.C_drewN ?_ _)|(with_reducible refine Kd.C_drew ?_)))
 (case side2=>exact HC0_1.out)
 rintro e w8 ⟨v214,rfl,ho0,hb⟩
 refine ⟨_,rfl,?_⟩
 have n0_:=zz (Kd.R_below (zq5 HO212.out) hb)
 have n1_:=zz (Kd.R_lower ho0 (zc (zq1 GE208.out GE209.out)))
 have n2_:=zz (zi (g:=gb208) (o:= .cells #[.slice A0_0 l0_0.length c0_0,.slice A0_1 l0_1.length c0_1] 32 (0,0)) (zq0 BK208.out) hb)
 have n3_:=zz (zi (g:=gb209) (o:= .cells #[.slice none 0 0,.slice none 0 0] 32 (0,0)) (zq0 BK209.out) hb)
 have n4_:=zz (ze (zq1 GE208.out GE209.out) hb)
 clear HO212
 clear BK208
 clear BK209
 clear HB
 have HO212:=n0_
 have HO215:=n1_
 have BK208:=n2_
 have BK209:=n3_
 have HB:=n4_
 clear n0_ n1_ n2_ n3_ n4_
 (try clear hb)
 (try clear hb2)
 (try clear hk)
 (try clear hi)
 (try clear ho0)
 obtain ⟨Ao9,co9,eo9⟩:=Kd.R_slice HO215.out
 (first|subst eo9|(injection eo9 with f1_ f2_ f3_;have f4_:=f1_.symm;have f5_:=f3_.symm;clear f1_ f2_ f3_;subst f4_;subst f5_))
 obtain ⟨Ao10,co10,eo10⟩:=Kd.R_slice HO212.out
 (first|subst eo10|(injection eo10 with f1_ f2_ f3_;have f4_:=f1_.symm;have f5_:=f3_.symm;clear f1_ f2_ f3_;subst f4_;subst f5_))
 refine hK.out _ _ ⟨(zb BK208.out 0).trans rfl,(zb BK208.out 1).trans rfl⟩ (fun hHeld=> ?_)
 clear hK K
 refine zAa (a':= ?_) ?_ ?_
 rotate_left
 ·show Act.put _ (some 8) _=_
  simp only [Act.put,List.setIfInBounds_toArray,List.set_cons_zero,List.set_cons_succ,zfa,zOa]
  rfl
 refine zca (i:=6) (N:=some 9) (v:= ?_) (a':= ?_) #[true,true,true,true,true,true,true,false] rfl rfl (zV HT_.out zq15) (fun _ _ _ h=>h) (Or.inl ⟨zq44,zq27⟩) zq12 ?_
 refine one_ (i:=7) (N:=none) #[true,true,true,true,true,true,true,true] rfl rfl (zoa HT_.out zq15) zq26 (fun K hK=> ?_)
 have hs11:w8.cell? ⟨gb209,0,none⟩=some (.slice none 0 0):=(zb BK209.out 0).trans rfl
 have hfs11:=za BK209.out 0
 have hns11_0:=NB208_209.out
 have hms11_0:=NB209_208.out
 have hs12:w8.cell? ⟨gb209,1,none⟩=some (.slice none 0 0):=(zb BK209.out 1).trans rfl
 have hfs12:=za BK209.out 1
 have hns12_0:=NB208_209.out
 have hms12_0:=NB209_208.out
 refine skip_ (w1:= ?_) zq44 rfl ?_ ?_
 rotate_left
 ·go_simp
  rfl
 refine hK.out _ _ ⟨((zl (p:=⟨gb209,_,none⟩) NB208_209.out _).trans (((zl (p:=⟨gb209,_,none⟩) NB208_209.out _).trans (hHeld.1)))),((zl (p:=⟨gb209,_,none⟩) NB208_209.out _).trans (((zl (p:=⟨gb209,_,none⟩) NB208_209.out _).trans (hHeld.2))))⟩ (fun hHeld=> ?_)
 clear hK K
 refine done_ (done_of HT_.out zq15) ?_
 try go_wp2
 refine bodyPost_ret (results_cell_row rfl _ _ gb209 32 #[.slice Ao10 t210.length co10,.slice Ao9 t213.length co9] (0,0) _ rfl (by (with_reducible repeat (first|refine zf ?_ _|refine zj ?_|refine zh ?_ _));refine zr (cs:= #[.slice Ao10 t210.length co10,.slice none 0 0]) ?_ 1 _ rfl;(with_reducible repeat (first|refine zf ?_ _|refine zj ?_|refine zh ?_ _));refine zr (cs:= #[.slice none 0 0,.slice none 0 0]) ?_ 0 _ rfl;(with_reducible repeat (first|refine zf ?_ _|refine zj ?_|refine zh ?_ _));exact BK209.out) Try.underlying32 rfl zq15) rfl ?_
 exact ⟨_,_,zq10,zq93 HO212.out BK209.out,zq93 HO215.out BK209.out,by repeat (first|(with_reducible first|exact HB.out|apply zg|apply zd|apply zk|refine zn ?_ GE208.out|refine zn ?_ GE209.out)|exact HB.out)⟩
def laws_eqStringS.l0:Nat→List ByteArray→List ByteArray→Int→Option (Bool)
 |0,_,_,_=>none
 |k+1,x0,x1,x5=>if x5<(x0.length:Int) then (if 0≤x5 then (if x5<(x1.length:Int) then (if (zpa ByteArray.empty x0 x5).toList=(zpa ByteArray.empty x1 x5).toList then (laws_eqStringS.l0 k x0 x1 (wrap64 (x5+1))) else (none)) else (none)) else (none)) else (some true)
def laws_eqStringS.f (k:Nat) (l0:List ByteArray) (l1:List ByteArray):Option (Bool):=if (l0.length:Int)=(l1.length:Int) then (laws_eqStringS.l0 k l0 l1 0) else (none)
theorem laws_eqStringS.mono_l:∀k,(∀y0 y1 y2,LeO (laws_eqStringS.l0 k y0 y1 y2) (laws_eqStringS.l0 (k+1) y0 y1 y2))
 |0=>fun _ _ _ r h=>by simp [laws_eqStringS.l0] at h
 |k+1=>by
  have ih0:=laws_eqStringS.mono_l k
  ·intro y0 y1 y2
   unfold laws_eqStringS.l0
   repeat' first
   |(with_reducible exact ih0 _ _ _)
   |(with_reducible exact LeO.refl _)
   |(with_reducible exact LeO.none _)
   |(with_reducible refine LeO.ite ?_ ?_)
   |(with_reducible refine LeO.bind ?_ (fun _=> ?_))
   |exact ih0 _ _ _
theorem laws_eqStringS.mono:∀a0 a1 k,LeO (laws_eqStringS.f k a0 a1) (laws_eqStringS.f (k+1) a0 a1):=by
 intro a0 a1 k
 have ih0:=laws_eqStringS.mono_l k
 unfold laws_eqStringS.f
 repeat' first
   |(with_reducible exact ih0 _ _ _)
   |(with_reducible exact LeO.refl _)
   |(with_reducible exact LeO.none _)
   |(with_reducible refine LeO.ite ?_ ?_)
   |(with_reducible refine LeO.bind ?_ (fun _=> ?_))
   |exact ih0 _ _ _
theorem laws_eqStringS.calls (k:Nat) (A0:Option Addr) (c0:Nat) (l0:List ByteArray) (A1:Option Addr) (c1:Nat) (l1:List ByteArray) (r:Bool) (w:World) (hr0:Kd.C Kd.string w A0 l0.length l0) (hc0:l0.length≤c0) (hr1:Kd.C Kd.string w A1 l1.length l1) (hc1:l1.length≤c1) (h:laws_eqStringS.f k l0 l1=some r):
  Calls Try.prog 60 #[.slice A0 l0.length c0,.slice A1 l1.length c1] w fun e w'=>e= .returned (.bool r)∧Drawn0 w w':=by
 have HR0:=zz hr0
 have HC0:=zz hc0
 clear hr0 hc0
 have HR1:=zz hr1
 have HC1:=zz hc1
 clear hr1 hc1
 have H:(if (l0.length:Int)=(l1.length:Int) then (laws_eqStringS.l0 k l0 l1 0) else (none))=some r:=h
 clear h
 by_cases c3:(l0.length:Int)=(l1.length:Int)
 ·rw [if_pos c3] at H
  have c3b0:((l0.length:Int)==(l1.length:Int))=true:=beq_iff_eq.mpr c3
  have c3b1:((l0.length:Int) !=(l1.length:Int))=false:=bne_eq_false_iff_eq.mpr c3
  have c3b2:(l0.length==l1.length)=true:=by first|simpa using c3|(simp at c3 ⊢;omega)
  clear c3
  have H':=zz H
  clear H
  go_enter Try.func60,Try.ntmps60
  go_wp2
  repeat (go_quiet (fail);try go_wp2)
  go_loopg [5] k (fun kq v5 w'=>∃(x5_1:Int),v5= .int .i64 x5_1∧Z0 (laws_eqStringS.l0 kq l0 l1 x5_1=some r)∧Z0 (kq≤k)∧Drawn0 w w')
  case atStart=>exact ⟨(0),zq16,H',⟨Nat.le_refl _⟩,by repeat (first|exact Drawn0.refl _|apply Drawn0.step)⟩
  case round=>
   clear H'
   try clear c1
   try clear c3
   try clear c3b0
   try clear c3b1
   try clear c3b2
   obtain ⟨x5_1,rfl,HA,HK1,⟨m1,rfl⟩⟩:=hrel
   cases gk with
   |zero=>exact absurd HA.out (by simp [laws_eqStringS.l0])
   |succ k1=>
    have H:=HA.out
    clear HA
    simp only [laws_eqStringS.l0] at H
    by_cases c4:x5_1<(l0.length:Int)
    ·rw [if_pos c4] at H
     have c4b0:=decide_eq_true c4
     clear c4
     by_cases c5:0≤x5_1
     ·rw [if_pos c5] at H
      have c5b0:=decide_eq_true c5
      clear c5
      by_cases c6:x5_1<(l1.length:Int)
      ·rw [if_pos c6] at H
       have c6b0:=decide_eq_true c6
       clear c6
       by_cases c7:(zpa ByteArray.empty l0 x5_1).toList=(zpa ByteArray.empty l1 x5_1).toList
       ·rw [if_pos c7] at H
        have c7b0:((zpa ByteArray.empty l0 x5_1).toList==(zpa ByteArray.empty l1 x5_1).toList)=true:=beq_iff_eq.mpr c7
        have c7b1:((zpa ByteArray.empty l0 x5_1).toList !=(zpa ByteArray.empty l1 x5_1).toList)=false:=bne_eq_false_iff_eq.mpr c7
        clear c7
        have H':=zz H
        clear H
        have p262:0≤(x5_1:Int):=of_decide_eq_true zq24
        have q262:x5_1<(l0.length:Int):=of_decide_eq_true zq24
        obtain ⟨ad262,e262,hx262_0⟩:=Kd.at_string HR0.out x5_1 p262 q262
        cases e262
        replace p262:=eq_true p262
        replace q262:=eq_true q262
        have p263:0≤(x5_1:Int):=of_decide_eq_true zq24
        have q263:x5_1<(l1.length:Int):=of_decide_eq_true zq24
        obtain ⟨ad263,e263,hx263_0⟩:=Kd.at_string HR1.out x5_1 p263 q263
        cases e263
        replace p263:=eq_true p263
        replace q263:=eq_true q263
        go_wp2
        repeat (go_quiet (fail);try go_wp2)
        go_roundg k1
        case measure=>have:=HK1.out;omega
        case rel=>exact ⟨(wrap64 (x5_1+1)),zq16,H',⟨zq95 HK1.out⟩,by repeat (first|exact Drawn0.refl _|apply Drawn0.step)⟩
       ·rw [if_neg c7] at H
        exact absurd H zq52
      ·rw [if_neg c6] at H
       exact absurd H zq52
     ·rw [if_neg c5] at H
      exact absurd H zq52
    ·rw [if_neg c4] at H
     have c4b0:=decide_eq_false c4
     clear c4
     obtain rfl:=Option.some.inj H
     go_wp2
     repeat (go_quiet (fail);try go_wp2)
     go_ret
     exact ⟨zq16,by repeat (first|exact Drawn0.refl _|apply Drawn0.step)⟩
 ·rw [if_neg c3] at H
  exact absurd H zq52
def laws_eqPut.f (a0_0:Int) (a0_1:ByteArray) (a1_0:Int) (a1_1:ByteArray):Option (Bool):=if a0_0=a1_0 then (if a0_1.toList=a1_1.toList then (some true) else (none)) else (none)
theorem laws_eqPut.calls (a0_0:Int) (a0_1:ByteArray) (a1_0:Int) (a1_1:ByteArray) (r:Bool) (w:World) (h:laws_eqPut.f a0_0 a0_1 a1_0 a1_1=some r):
  Calls Try.prog 129 #[.agg #[.int .i64 a0_0,.string a0_1],.agg #[.int .i64 a1_0,.string a1_1]] w fun e w'=>e= .returned (.bool r)∧Below w.heap.size w w':=by
 have hu135:=Try.underlying135
 have HB:=zz (Below.refl w.heap.size w)
 have H:(if a0_0=a1_0 then (if a0_1.toList=a1_1.toList then (some true) else (none)) else (none))=some r:=h
 clear h
 by_cases c3:a0_0=a1_0
 ·rw [if_pos c3] at H
  have c3b0:(a0_0==a1_0)=true:=beq_iff_eq.mpr c3
  have c3b1:(a0_0 !=a1_0)=false:=bne_eq_false_iff_eq.mpr c3
  clear c3
  by_cases c4:a0_1.toList=a1_1.toList
  ·rw [if_pos c4] at H
   have c4b0:(a0_1.toList==a1_1.toList)=true:=beq_iff_eq.mpr c4
   have c4b1:(a0_1.toList !=a1_1.toList)=false:=bne_eq_false_iff_eq.mpr c4
   clear c4
   obtain rfl:=Option.some.inj H
   go_enter Try.func129,Try.ntmps129
   go_wp2_with (first|((with_reducible refine zm (N:=2) rfl ?_);refine zq ?hg (N:=2) ?hd (cs:= #[.int .i64 a0_0,.string a0_1]) (t:=135) ?hr ?_;(case hd=>rfl);(case hg=>rfl);(case hr=>first|(go_simp;done)|(go_simp;rfl));intro gb264 hg w5 hbox hb;have n0_:=zz (ze zq2 hb);have n1_:=zz (hbox);have n2_:=zz ((by rw [hg];exact (zc zq2):w.heap.size≤gb264));have n3_:=zz ((by rw [hg];exact (zc zq2):w.heap.size≤gb264));clear HB;have HB:=n0_;have BK264:=n1_;have GW264:=n2_;have GE264:=n3_;clear n0_ n1_ n2_ n3_;clear hb hbox hg)|((with_reducible refine zm (N:=3) rfl ?_);refine zq ?hg (N:=3) ?hd (cs:= #[.int .i64 a1_0,.string a1_1]) (t:=135) ?hr ?_;(case hd=>rfl);(case hg=>rfl);(case hr=>first|(go_simp;done)|(go_simp;rfl));intro gb265 hg w6 hbox hb;have n0_:=zz (zi (g:=gb264) (o:= .cells #[.int .i64 a0_0,.string a0_1] 135 (0,0)) (zq0 BK264.out) hb);have n1_:=zz (ze (zq3 GE264.out) hb);have n2_:=zz (hbox);have n3_:=zz ((by rw [hg];exact (zc (zq3 GE264.out)):w.heap.size≤gb265));have n4_:=zz ((by rw [hg];exact (zc (zq3 GE264.out)):w.heap.size≤gb265));have n5_:=zz ((by rw [hg];exact Nat.ne_of_lt (zu (g:=gb264) (o:= .cells #[.int .i64 a0_0,.string a0_1] 135 (0,0)) (zq0 BK264.out)):gb264≠gb265));have n6_:=zz ((by rw [hg];exact Nat.ne_of_gt (zu (g:=gb264) (o:= .cells #[.int .i64 a0_0,.string a0_1] 135 (0,0)) (zq0 BK264.out)):gb265≠gb264));clear BK264;clear HB;have BK264:=n0_;have HB:=n1_;have BK265:=n2_;have GW265:=n3_;have GE265:=n4_;have NB264_265:=n5_;have NB265_264:=n6_;clear n0_ n1_ n2_ n3_ n4_ n5_ n6_;clear hb hbox hg;have hnb7:=NB264_265.out;have hnc7:=NB265_264.out;have hcz8_0:w6.cell? ⟨gb264,0,none⟩=some (.int .i64 a0_0):=(zb BK264.out 0).trans rfl;have hcz8_1:w6.cell? ⟨gb264,1,none⟩=some (.string a0_1):=(zb BK264.out 1).trans rfl;have hfz8_0:=za BK264.out 0;have hfz8_1:=za BK264.out 1;have hcz9_0:w6.cell? ⟨gb265,0,none⟩=some (.int .i64 a1_0):=(zb BK265.out 0).trans rfl;have hcz9_1:w6.cell? ⟨gb265,1,none⟩=some (.string a1_1):=(zb BK265.out 1).trans rfl;have hfz9_0:=za BK265.out 0;have hfz9_1:=za BK265.out 1))
   go_ret
   exact ⟨zq10,by repeat (first|(with_reducible first|exact HB.out|apply zg|apply zd|apply zk|refine zn ?_ GE264.out|refine zn ?_ GE265.out)|exact HB.out)⟩
  ·rw [if_neg c4] at H
   exact absurd H zq52
 ·rw [if_neg c3] at H
  exact absurd H zq52
def laws_eqPutS.l0:Nat→List (S135)→List (S135)→Int→Option (Bool)
 |0,_,_,_=>none
 |k+1,x0,x1,x5=>if x5<(x0.length:Int) then (if 0≤x5 then (if x5<(x1.length:Int) then ((laws_eqPut.f ((zx x0 x5).f0) ((zx x0 x5).f1) ((zx x1 x5).f0) ((zx x1 x5).f1)).bind fun t268=>(if t268=true then (laws_eqPutS.l0 k x0 x1 (wrap64 (x5+1))) else (none))) else (none)) else (none)) else (some true)
def laws_eqPutS.f (k:Nat) (l0:List (S135)) (l1:List (S135)):Option (Bool):=if (l0.length:Int)=(l1.length:Int) then (laws_eqPutS.l0 k l0 l1 0) else (none)
theorem laws_eqPutS.mono_l:∀k,(∀y0 y1 y2,LeO (laws_eqPutS.l0 k y0 y1 y2) (laws_eqPutS.l0 (k+1) y0 y1 y2))
 |0=>fun _ _ _ r h=>by simp [laws_eqPutS.l0] at h
 |k+1=>by
  have ih0:=laws_eqPutS.mono_l k
  ·intro y0 y1 y2
   unfold laws_eqPutS.l0
   repeat' first
   |(with_reducible exact ih0 _ _ _)
   |(with_reducible exact LeO.refl _)
   |(with_reducible exact LeO.none _)
   |(with_reducible refine LeO.ite ?_ ?_)
   |(with_reducible refine LeO.bind ?_ (fun _=> ?_))
   |exact ih0 _ _ _
theorem laws_eqPutS.mono:∀a0 a1 k,LeO (laws_eqPutS.f k a0 a1) (laws_eqPutS.f (k+1) a0 a1):=by
 intro a0 a1 k
 have ih0:=laws_eqPutS.mono_l k
 unfold laws_eqPutS.f
 repeat' first
   |(with_reducible exact ih0 _ _ _)
   |(with_reducible exact LeO.refl _)
   |(with_reducible exact LeO.none _)
   |(with_reducible refine LeO.ite ?_ ?_)
   |(with_reducible refine LeO.bind ?_ (fun _=> ?_))
   |exact ih0 _ _ _
def laws_eqPutS.T6:Bool×List (List Nat×List Nat):=(true,[([],[]),([],[]),([0,1],[0,1]),([2],[2]),([],[]),([],[]),([4,5],[4,5]),([6],[6]),([3,7],[3,7]),([8],[8])])
def laws_eqPutS.B6:List Nat:=[0,0,3,7,0,0,48,112,255,511]
theorem laws_eqPutS.tab6:rtab .any (opsOf Try.f71 6)=laws_eqPutS.T6:=zq15
theorem laws_eqPutS.bits6:zza laws_eqPutS.T6.2 laws_eqPutS.B6=true:=zq15
theorem laws_eqPutS.calls (k:Nat) (A0:Option Addr) (c0:Nat) (l0:List (S135)) (A1:Option Addr) (c1:Nat) (l1:List (S135)) (r:Bool) (w:World) (hr0:Kd.C k135 w A0 l0.length l0) (hc0:l0.length≤c0) (hr1:Kd.C k135 w A1 l1.length l1) (hc1:l1.length≤c1) (h:laws_eqPutS.f k l0 l1=some r):
  Calls Try.prog 71 #[.slice A0 l0.length c0,.slice A1 l1.length c1] w fun e w'=>e= .returned (.bool r)∧Below w.heap.size w w':=by
 have hu135:=Try.underlying135
 have HR0:=zz hr0
 have HC0:=zz hc0
 clear hr0 hc0
 have HR1:=zz hr1
 have HC1:=zz hc1
 clear hr1 hc1
 have HB:=zz (Below.refl w.heap.size w)
 have H:(if (l0.length:Int)=(l1.length:Int) then (laws_eqPutS.l0 k l0 l1 0) else (none))=some r:=h
 clear h
 by_cases c3:(l0.length:Int)=(l1.length:Int)
 ·rw [if_pos c3] at H
  have c3b0:((l0.length:Int)==(l1.length:Int))=true:=beq_iff_eq.mpr c3
  have c3b1:((l0.length:Int) !=(l1.length:Int))=false:=bne_eq_false_iff_eq.mpr c3
  have c3b2:(l0.length==l1.length)=true:=by first|simpa using c3|(simp at c3 ⊢;omega)
  clear c3
  have H':=zz H
  clear H
  go_enter Try.func71,Try.ntmps71
  go_wp2
  go_loopg [5] k (fun kq v5 w'=>∃(x5_1:Int),v5= .int .i64 x5_1∧Z0 (laws_eqPutS.l0 kq l0 l1 x5_1=some r)∧Z0 (kq≤k)∧Z0 (Below w.heap.size w w'))
  case atStart=>exact ⟨(0),zq16,H',⟨Nat.le_refl _⟩,⟨by repeat (first|(with_reducible first|exact HB.out|apply zg|apply zd|apply zk)|exact HB.out)⟩⟩
  case round=>
   clear H'
   try clear c1
   try clear c3
   try clear c3b0
   try clear c3b1
   try clear c3b2
   obtain ⟨x5_1,rfl,HA,HK1,HB⟩:=hrel
   cases gk with
   |zero=>exact absurd HA.out (by simp [laws_eqPutS.l0])
   |succ k1=>
    have H:=HA.out
    clear HA
    simp only [laws_eqPutS.l0] at H
    by_cases c4:x5_1<(l0.length:Int)
    ·rw [if_pos c4] at H
     have c4b0:=decide_eq_true c4
     clear c4
     by_cases c5:0≤x5_1
     ·rw [if_pos c5] at H
      have c5b0:=decide_eq_true c5
      clear c5
      by_cases c6:x5_1<(l1.length:Int)
      ·rw [if_pos c6] at H
       have c6b0:=decide_eq_true c6
       clear c6
       replace H:=Option.bind_eq_some_iff.mp H
       obtain ⟨t268,A70,H⟩:=H
       replace H:(if t268=true then (laws_eqPutS.l0 k1 l0 l1 (wrap64 (x5_1+1))) else (none))=some r:=H
       have A7:=zz A70
       clear A70
       by_cases c8:t268=true
       ·subst c8
        rw [if_pos rfl] at H
        have H':=zz H
        clear H
        try go_wp2
        have n0_:=zz (zk HB.out)
        clear HB
        have HB:=n0_
        clear n0_
        have p266:0≤(x5_1:Int):=of_decide_eq_true zq24
        have q266:x5_1<(l0.length:Int):=of_decide_eq_true zq24
        obtain ⟨ad266,e266,hx266_0,hx266_1⟩:=zsa HR0.out x5_1 p266 q266
        have hw266_1:=hx266_1
        have hw266_0:=hx266_0
        cases e266
        replace hx266_0:=(HB.out.cell (World.block_lt_of_cell? w _ hx266_0)).trans hx266_0
        replace hx266_1:=(HB.out.cell (World.block_lt_of_cell? w _ hx266_1)).trans hx266_1
        replace p266:=eq_true p266
        replace q266:=eq_true q266
        have p267:0≤(x5_1:Int):=of_decide_eq_true zq24
        have q267:x5_1<(l1.length:Int):=of_decide_eq_true zq24
        obtain ⟨ad267,e267,hx267_0,hx267_1⟩:=zsa HR1.out x5_1 p267 q267
        have hw267_1:=hx267_1
        have hw267_0:=hx267_0
        cases e267
        replace hx267_0:=(HB.out.cell (World.block_lt_of_cell? w _ hx267_0)).trans hx267_0
        replace hx267_1:=(HB.out.cell (World.block_lt_of_cell? w _ hx267_1)).trans hx267_1
        replace p267:=eq_true p267
        replace q267:=eq_true q267
        refine start_ (n:=10) (S:=fun w'=>w'.cell? (ad266.add ((x5_1).toNat*2))=some (.int .i64 ((zx l0 x5_1).f0))∧w'.cell? ⟨(ad266.add ((x5_1).toNat*2)).block,(ad266.add ((x5_1).toNat*2)).off+1,none⟩=some (.string ((zx l0 x5_1).f1))∧w'.cell? (ad267.add ((x5_1).toNat*2))=some (.int .i64 ((zx l1 x5_1).f0))∧w'.cell? ⟨(ad267.add ((x5_1).toNat*2)).block,(ad267.add ((x5_1).toNat*2)).off+1,none⟩=some (.string ((zx l1 x5_1).f1))) (ds:=[]) #[false,false,false,false,false,false,false,false,false,false] zq15 rfl rfl ⟨((HB.out.cell (World.block_lt_of_cell? w _ hw266_0)).trans hw266_0),((HB.out.cell (World.block_lt_of_cell? w _ hw266_1)).trans hw266_1),((HB.out.cell (World.block_lt_of_cell? w _ hw267_0)).trans hw267_0),((HB.out.cell (World.block_lt_of_cell? w _ hw267_1)).trans hw267_1)⟩ (fun hHeld=> ?_);refine zXa laws_eqPutS.tab6 laws_eqPutS.bits6 (fun HT_ HW_=> ?_)
        generalize wr.drew=w9 at HB hx266_0 hx266_1 hx267_0 hx267_1 hHeld ⊢
        refine zca (i:=0) (N:=some 17) (v:= ?_) (a':= ?_) #[true,false,false,false,false,false,false,false,false,false] rfl rfl (zV HT_.out zq15) (fun _ _ _ h=>h) (Or.inl ⟨zq44,zq27⟩) zq12 ?_
        refine zca (i:=1) (N:=some 18) (v:= ?_) (a':= ?_) #[true,true,false,false,false,false,false,false,false,false] rfl rfl (zV HT_.out zq15) (fun _ _ _ h=>h) (Or.inl ⟨zq44,zq27⟩) zq12 ?_
        refine zca (i:=2) (N:=some 19) (v:= ?_) (a':= ?_) #[true,true,true,false,false,false,false,false,false,false] rfl rfl (zV HT_.out zq15) (fun _ _ _ h=>h) (Or.inl ⟨zq44,zq27⟩) zq12 ?_
        refine zca (i:=4) (N:=some 21) (v:= ?_) (a':= ?_) #[true,true,true,false,true,false,false,false,false,false] rfl rfl (zV HT_.out zq15) (fun _ _ _ h=>h) (Or.inl ⟨zq44,zq27⟩) zq12 ?_
        refine zca (i:=5) (N:=some 22) (v:= ?_) (a':= ?_) #[true,true,true,false,true,true,false,false,false,false] rfl rfl (zV HT_.out zq15) (fun _ _ _ h=>h) (Or.inl ⟨zq44,zq27⟩) zq12 ?_
        refine zca (i:=6) (N:=some 23) (v:= ?_) (a':= ?_) #[true,true,true,false,true,true,true,false,false,false] rfl rfl (zV HT_.out zq15) (fun _ _ _ h=>h) (Or.inl ⟨zq44,zq27⟩) zq12 ?_
        refine take_ (i:=3) (N:=some 20) (v:= ?_) (a':= ?_) #[true,true,true,true,true,true,true,false,false,false] rfl rfl (zaa HT_.out HW_.out zq15) (fun _ _ _ h=>h) (Or.inl ⟨zq44,by rintro w' ⟨s0,s1,s2,s3⟩;go_simp;with_reducible rfl⟩) hHeld zq12 ?_
        refine take_ (i:=7) (N:=some 24) (v:= ?_) (a':= ?_) #[true,true,true,true,true,true,true,true,false,false] rfl rfl (zaa HT_.out HW_.out zq15) (fun _ _ _ h=>h) (Or.inl ⟨zq44,by rintro w' ⟨s0,s1,s2,s3⟩;go_simp;with_reducible rfl⟩) hHeld zq12 ?_
        refine one_ (i:=8) (N:=some 25) #[true,true,true,true,true,true,true,true,true,false] rfl rfl (zoa HT_.out zq15) zq26 (fun K hK=> ?_)
        refine goes_ Try.func129 zq15 rfl #[.agg #[.int .i64 ((zx l0 x5_1).f0),.string ((zx l0 x5_1).f1)],.agg #[.int .i64 ((zx l1 x5_1).f0),.string ((zx l1 x5_1).f1)]] zq44 rfl rfl zq4 ?_
        with_reducible refine (laws_eqPut.calls ((zx l0 x5_1).f0) ((zx l0 x5_1).f1) ((zx l1 x5_1).f0) ((zx l1 x5_1).f1) true _ A7.out).mono ?_
        rintro e w10 ⟨rfl,hb⟩
        refine ⟨_,rfl,?_⟩
        have n0_:=zz (ze zq2 hb)
        clear HB
        have HB:=n0_
        clear n0_
        (try clear hb)
        (try clear hb2)
        (try clear hk)
        (try clear hi)
        refine hK.out _ _ ⟨((HB.out.cell (World.block_lt_of_cell? w _ hw266_0)).trans hw266_0),((HB.out.cell (World.block_lt_of_cell? w _ hw266_1)).trans hw266_1),((HB.out.cell (World.block_lt_of_cell? w _ hw267_0)).trans hw267_0),((HB.out.cell (World.block_lt_of_cell? w _ hw267_1)).trans hw267_1)⟩ (fun hHeld=> ?_)
        clear hK K
        refine zAa (a':= ?_) ?_ ?_
        rotate_left
        ·show Act.put _ (some 25) _=_
         simp only [Act.put,List.setIfInBounds_toArray,List.set_cons_zero,List.set_cons_succ,zfa,zOa]
         rfl
        refine zca (i:=9) (N:=some 26) (v:= ?_) (a':= ?_) #[true,true,true,true,true,true,true,true,true,true] rfl rfl (zV HT_.out zq15) (fun _ _ _ h=>h) (Or.inl ⟨zq44,zq27⟩) zq12 ?_
        refine done_ (done_of HT_.out zq15) ?_
        try go_wp2
        go_roundg k1
        case measure=>have:=HK1.out;omega
        case rel=>exact ⟨(wrap64 (x5_1+1)),zq16,H',⟨zq95 HK1.out⟩,⟨by repeat (first|(with_reducible first|exact HB.out|apply zg|apply zd|apply zk)|exact HB.out)⟩⟩
       ·replace c8:=Bool.eq_false_iff.mpr c8
        subst c8
        rw [if_neg (show ¬(false=true) by decide)] at H
        exact absurd H zq52
      ·rw [if_neg c6] at H
       exact absurd H zq52
     ·rw [if_neg c5] at H
      exact absurd H zq52
    ·rw [if_neg c4] at H
     have c4b0:=decide_eq_false c4
     clear c4
     obtain rfl:=Option.some.inj H
     go_wp2
     go_ret
     exact ⟨zq10,by repeat (first|(with_reducible first|exact HB.out|apply zg|apply zd|apply zk)|exact HB.out)⟩
 ·rw [if_neg c3] at H
  exact absurd H zq52
end Go.Proofs.Ytonhdiemjgdcnaa.PFnExactGivePage
