import Derived.Test.YtonhdiemjgdcnaaGreatCW2
import Derived.WalkSpells
set_option maxHeartbeats 64000000
set_option maxRecDepth 100000
set_option linter.unusedVariables false
set_option linter.unusedSimpArgs false
namespace Go.Proofs
theorem zq11{P Q0 Q1 Q2:Prop}(q0:Q0)(q1:Q1)(q2:Q2)(h:Q0→Q1→Q2→P:=by intro q0 q1 q2;repeat (first|(with_reducible first|exact HB.1|apply zo|apply zO|apply zR|refine zZ ?_ q0|refine zZ ?_ q1|refine zZ ?_ q2)|exact HB.1)):P:=h q0 q1 q2
theorem zq35{P Q0 Q1:Prop}(q0:Q0)(q1:Q1)(h:Q0→Q1→P:=by intro q0 q1;rw [hg];exact (zD (by repeat (first|(with_reducible first|exact HB.1|apply zo|apply zO|apply zR|refine zZ ?_ q0|refine zZ ?_ q1)|exact HB.1)))):P:=h q0 q1
theorem zq43{P Q0:Prop}(q0:Q0)(h:Q0→P:=by intro q0;rw [hg];exact z8a (zP (g:=g1) (o:= .cells #[.slice none 0 0,.slice none 0 0] 37 (0,0)) (by (with_reducible repeat (first|refine zk ?_ _|refine zl ?_|refine zh ?_ _));exact q0))):P:=h q0
theorem zq44{P Q0:Prop}(q0:Q0)(h:Q0→P:=by intro q0;rw [hg];exact z7a (zP (g:=g1) (o:= .cells #[.slice none 0 0,.slice none 0 0] 37 (0,0)) (by (with_reducible repeat (first|refine zk ?_ _|refine zl ?_|refine zh ?_ _));exact q0))):P:=h q0
theorem zq46{P Q0 Q1:Prop}(q0:Q0)(q1:Q1)(h:Q0→Q1→P:=by intro q0 q1;(with_reducible repeat (first|refine zk ?_ _|refine zl ?_|refine zh ?_ _));refine zka ?_ q0 _;(with_reducible repeat (first|refine zk ?_ _|refine zl ?_|refine zh ?_ _));exact q1):P:=h q0 q1
theorem zq49{P:Prop}(h:P:=by rintro w' ⟨s0,s1,s2,s3⟩;go_simp;with_reducible rfl):P:=h
theorem zq61{P Q0 Q1 Q2:Prop}(q0:Q0)(q1:Q1)(q2:Q2)(h:Q0→Q1→Q2→P:=by intro q0 q1 q2;(with_reducible repeat (first|apply Kd.R_alloc|apply Kd.R_drewN|apply Kd.R_drew));exact Kd.R_mono (Kd.R_far (p:=⟨g1,1,none⟩) (Kd.R_far (p:=⟨g1,0,none⟩) (Kd.R_far (p:=⟨g2,1,none⟩) (Kd.R_types (Kd.R_types q0 q1 (by decide)) q2 (by decide)) (fun _ hk=>hk.1.2) (.slice A7 t1.length c12)) (fun _ hk=>hk.2) (.slice A6 t0.length c11)) (fun _ hk=>hk.2) (.slice A7 t1.length c12)) (fun _ hk=>trivial)):P:=h q0 q1 q2
theorem zq68{P Q0 Q1:Prop}(q0:Q0)(q1:Q1)(h:Q0→Q1→P:=by intro q0 q1;(with_reducible repeat (first|apply Kd.R_alloc|apply Kd.R_drewN|apply Kd.R_drew));exact Kd.R_mono (Kd.R_far (p:=⟨g1,1,none⟩) (Kd.R_far (p:=⟨g1,0,none⟩) (Kd.R_types q0 q1 (by decide)) (fun _ hk=>hk.2) (.slice A6 t0.length c11)) (fun _ hk=>hk.2) (.slice Ao9 t1.length co9)) (fun _ hk=>trivial)):P:=h q0 q1
theorem zq87{P Q0:Prop}(q0:Q0)(h:Q0→P:=by intro q0;rw [hg];exact z8a (zP (g:=g0) (o:= .cells #[.slice A0 l2.length c0,.slice A1 l3.length c1] 28 (0,0)) (by (with_reducible repeat (first|refine zk ?_ _|refine zl ?_|refine zh ?_ _));exact q0))):P:=h q0
theorem zq88{P Q0:Prop}(q0:Q0)(h:Q0→P:=by intro q0;rw [hg];exact z7a (zP (g:=g0) (o:= .cells #[.slice A0 l2.length c0,.slice A1 l3.length c1] 28 (0,0)) (by (with_reducible repeat (first|refine zk ?_ _|refine zl ?_|refine zh ?_ _));exact q0))):P:=h q0
theorem zq97{P Q0:Prop}(q0:Q0)(h:Q0→P:=by intro q0;rw [hg];exact z8a (zP (g:=g0) (o:= .cells #[.int .i64 a0,.string a1] 156 (0,0)) (by (with_reducible repeat (first|refine zk ?_ _|refine zl ?_|refine zh ?_ _));exact q0))):P:=h q0
theorem zq98{P Q0:Prop}(q0:Q0)(h:Q0→P:=by intro q0;rw [hg];exact z7a (zP (g:=g0) (o:= .cells #[.int .i64 a0,.string a1] 156 (0,0)) (by (with_reducible repeat (first|refine zk ?_ _|refine zl ?_|refine zh ?_ _));exact q0))):P:=h q0
theorem zq105{P Q0:Prop}(q0:Q0)(h:Q0→P:=by intro q0;have h_:(x1:Int)<((x0.length:Int):Int):=z8 (by with_reducible assumption);first|exact h_|(have e_:=(Kd.R_reads' q0).1;omega)|simpa using h_):P:=h q0
theorem zq108{P Q0:Prop}(q0:Q0)(h:Q0→P:=by intro q0;rw [hw];exact zZ (HB.1) q0):P:=h q0
theorem zq120{P:Prop}(h:P:=by first|simpa using c3|(simp at c3 ⊢;omega)):P:=h
theorem zq129{P:Prop}(h:P:=by have:=HL.1;simp only [List.length_nil];omega):P:=h
theorem zq151{P:Prop}(h:P:=by
 refine zia (i:=9) (N:=some 26) (v:= ?_) (a':= ?_) #[true,true,true,true,true,true,true,true,true,true] rfl rfl (zQ HT_.1 zq13) (fun _ _ _ h=>h) (Or.inl ⟨zq22,zq12⟩) zq10 ?_
 refine done_ (done_of HT_.1 zq13) ?_
 try go_wp2
 go_roundg k1
 case measure=>have:=HK1.1;omega
 case rel=>exact ⟨(wrap64 (x0+1)),zq18,H',⟨zq51 HK1.1⟩,⟨zq0⟩⟩):P:=h
theorem zq158{P:Prop}(h:P:=by
 rw [if_neg c6] at H
 have c6b0:=z7 c6
 clear c6
 obtain rfl:=z6a H
 go_wp2
 go_ret
 exact ⟨_,zq16,by (with_reducible repeat (first|apply Kd.R_alloc|apply Kd.R_drewN|apply Kd.R_drew));exact O1.1,zq0⟩):P:=h
theorem zq160{P:Prop}(h:P:=by
 go_roundg k1
 case measure=>have:=HK1.1;omega
 case rel=>exact ⟨(y1),(wrap64 (x1+1)),zq18,H',⟨zq51 HK1.1⟩,⟨by (with_reducible repeat (first|apply Kd.R_alloc|apply Kd.R_drewN|apply Kd.R_drew));exact O1.1⟩,⟨zq0⟩⟩):P:=h
theorem zq161{P:Prop}(h:P:=by
 rw [if_neg c4] at H
 exact absurd H zq38):P:=h
theorem zq163{P:Prop}(h:P:=by
 rw [if_neg (show ¬(false=true) by decide)] at H
 exact absurd H zq38):P:=h
theorem zq176{P:Prop}(h:P:=by
 rw [if_neg c7] at H
 exact absurd H zq38):P:=h
theorem zq179{P:Prop}(h:P:=by
 rcases Nat.eq_zero_or_pos l0.length with h0|h0
 ·exact List.eq_nil_of_length_eq_zero h0
 ·obtain ⟨_,h1,_⟩:=hr0.2.2 h0
  cases h1):P:=h
theorem zq182{P:Prop}(h:P:=by
 refine ⟨_,rfl,?_⟩
 have n0:=zz (ze zq0 hb)
 clear HB
 have HB:=n0
 clear n0
 (try clear hb)
 (try clear hb2)
 (try clear hk)
 (try clear hi)
 refine hK.out _ _ ⟨((HB.1.cell (z0a w _ h2)).trans h2),((HB.1.cell (z0a w _ h0)).trans h0),((HB.1.cell (z0a w _ h4)).trans h4),((HB.1.cell (z0a w _ h3)).trans h3)⟩ (fun hHeld=> ?_)
 clear hK K
 refine zUb (a':= ?_) ?_ ?_
 rotate_left
 ·show Act.put _ (some 25) _=_
  exact zq146
 exact zq151):P:=h
theorem zq189{P:Prop}(h:P:=by
 cases e1
 replace p1:=eq_true p1
 replace q1:=eq_true q1
 go_wp2
 repeat (go_quiet (fail);try go_wp2)
 go_roundg k1
 case measure=>have:=HK1.1;omega
 case rel=>exact ⟨(wrap64 (x0+1)),zq18,H',⟨zq51 HK1.1⟩,zq33⟩):P:=h
theorem zq198{P:Prop}(h:P:=by
 rw [if_neg c4] at H
 have c4b0:=z7 c4
 clear c4
 obtain rfl:=z6a H
 go_wp2
 repeat (go_quiet (fail);try go_wp2)
 go_ret
 exact ⟨zq18,zq33⟩):P:=h
theorem zq201{P:Prop}(h:P:=by
 rw [if_neg c6] at H
 exact absurd H zq38):P:=h
theorem zq214{P:Prop}(h:P:=by
 go_ret
 exact ⟨zq16,zq5 G0.1 G1.1⟩):P:=h
end Go.Proofs
namespace Go.Proofs.YtonhdiemjgdcnaaGreat.PFnExactGivePage
open Go.RowKit Go.Proofs.YtonhdiemjgdcnaaGreatW.PrintWords Go.Proofs.YtonhdiemjgdcnaaGreatW.PrintLast Go.Proofs.YtonhdiemjgdcnaaGreatW.PrintMore
attribute [local go_sem] zma zla zwa zxa zba zca zoa zna
def laws_toStringS.l0:Nat→List ByteArray→List ByteArray→Int→Option (List ByteArray)
 |0,_,_,_=>none
 |k+1,x0,x3,x4=>if x4<(x0.length:Int) then (if 0≤x4 then (if x4<(x3.length:Int) then (laws_toStringS.l0 k x0 (x3.set (x4:Int).toNat (zcc ByteArray.empty x0 x4)) (wrap64 (x4+1))) else (none)) else (none)) else (some x3)
def laws_toStringS.f (k:Nat) (l0:List ByteArray):Option (List ByteArray):=if 0≤(l0.length:Int) then (if ((l0.length:Int):Int).toNat≤17592186044416 then (laws_toStringS.l0 k l0 (List.replicate ((l0.length:Int):Int).toNat (⟨#[]⟩:ByteArray)) 0) else (none)) else (none)
theorem laws_toStringS.mono_l:∀k,(∀y0 y1 y2,LeO (laws_toStringS.l0 k y0 y1 y2) (laws_toStringS.l0 (k+1) y0 y1 y2))
 |0=>fun _ _ _ r h=>by simp [laws_toStringS.l0] at h
 |k+1=>by
  have ih0:=laws_toStringS.mono_l k
  ·intro y0 y1 y2
   unfold laws_toStringS.l0
   exact zq145
theorem laws_toStringS.mono:∀a0 k,LeO (laws_toStringS.f k a0) (laws_toStringS.f (k+1) a0):=by
 intro a0 k
 have ih0:=laws_toStringS.mono_l k
 unfold laws_toStringS.f
 exact zq144
theorem laws_toStringS.calls (k:Nat) (A0:Option Addr) (c0:Nat) (l0:List ByteArray) (r:List ByteArray) (w:World) (hr0:Kd.C Kd.string w A0 l0.length l0) (hc0:l0.length≤c0) (h:laws_toStringS.f k l0=some r):
  Calls Tryz.prog 108 #[.slice A0 l0.length c0] w fun e w'=>∃v0:Value,e= .returned (v0)∧Kd.R Kd.string 9 w' w.heap.size (fun _=>True) v0 r∧Below w.heap.size w w':=by
 have HR0:=zz hr0
 clear hr0 hc0
 have HB:=zz (z1a w.heap.size w)
 have H:(if 0≤(l0.length:Int) then (if ((l0.length:Int):Int).toNat≤17592186044416 then (laws_toStringS.l0 k l0 (List.replicate ((l0.length:Int):Int).toNat (⟨#[]⟩:ByteArray)) 0) else (none)) else (none))=some r:=h
 clear h
 by_cases c2:0≤(l0.length:Int)
 ·rw [if_pos c2] at H
  have c2b0:=eq_true c2
  have c2b1:=z6 c2
  clear c2
  by_cases c3:((l0.length:Int):Int).toNat≤17592186044416
  ·rw [if_pos c3] at H
   have c3b0:=eq_true c3
   have c3b1:=z6 c3
   clear c3
   obtain ⟨y0,i0⟩:∃y_:List ByteArray,y_=(List.replicate ((l0.length:Int):Int).toNat (⟨#[]⟩:ByteArray)):=⟨_,rfl⟩
   replace H:(laws_toStringS.l0 k l0 y0 0)=some r:=zq20
   have Y0:=zz i0
   clear i0
   have H':=zz H
   clear H
   go_enter Tryz.func108,Tryz.ntmps108
   go_wp2_with (first|((with_reducible refine zd (N:=7) rfl ?_);refine Kd.R_make Kd.string _ 9 rfl (N:=7) rfl 25 _ _ rfl (l0.length:Int) rfl rfl Tryz.underlying25 (.string ⟨#[]⟩) 16 info9 rfl zq31 zq9 (⟨#[]⟩:ByteArray) (ok:=fun _=>True) (okp:=fun _=>True) rfl (fun _ hk=>hk) trivial (z8 zq21) (z5a (z9a _ (z8 zq21:(l0.length:Int).toNat≤17592186044416)) zq9) (z1a _ _) (z3a _) ?_;intro v1 w4 ho5 hb hg_ hnew_;clear hg_ hnew_;(first|rw [←Y0.1] at ho5|(simp only [Int.reduceToNat] at ho5;rw [←Y0.1] at ho5));have O0:=zz (Kd.R_lower ho5 (zD zq0));replace HB:=zz (ze zq0 hb);clear hb ho5))
   go_loopg [4] k (fun kq v4 w'=>∃(x0:List ByteArray) (x1:Int),v4= .int .i64 x1∧Z0 (laws_toStringS.l0 kq l0 x0 x1=some r)∧Z0 (kq≤k)∧Z0 (Kd.R Kd.string 9 w' w.heap.size (fun _=>True) v1 x0)∧Z0 (Below w.heap.size w w'))
   case atStart=>exact ⟨(y0),(0),zq18,H',⟨z3a _⟩,⟨by (with_reducible repeat (first|apply Kd.R_alloc|apply Kd.R_drewN|apply Kd.R_drew));exact O0.1⟩,⟨zq0⟩⟩
   case round=>
    clear H'
    try clear c2
    try clear c2b0
    try clear c2b1
    try clear c3
    try clear c3b0
    try clear c3b1
    obtain ⟨x0,x1,rfl,HA,HK1,O1,HB⟩:=hrel
    cases gk with
    |zero=>exact absurd HA.1 (by simp [laws_toStringS.l0])
    |succ k1=>
     have H:=HA.1
     clear HA
     simp only [laws_toStringS.l0] at H
     by_cases c6:x1<(l0.length:Int)
     ·rw [if_pos c6] at H
      have c6b0:=z6 c6
      clear c6
      by_cases c7:0≤x1
      ·rw [if_pos c7] at H
       have c7b0:=z6 c7
       clear c7
       by_cases c8:x1<(x0.length:Int)
       ·rw [if_pos c8] at H
        have c8b0:=z6 c8
        clear c8
        obtain ⟨y1,i1⟩:∃y_:List ByteArray,y_=(x0.set (x1:Int).toNat (zcc ByteArray.empty l0 x1)):=⟨_,rfl⟩
        replace H:(laws_toStringS.l0 k1 l0 y1 (wrap64 (x1+1)))=some r:=zq34
        have Y1:=zz i1
        clear i1
        have H':=zz H
        clear H
        have p0:0≤(x1:Int):=z8 zq21
        have q0:x1<(l0.length:Int):=z8 zq21
        obtain ⟨ad164,e0,k0⟩:=Kd.at_string HR0.1 x1 p0 q0
        cases e0
        replace k0:=(HB.1.cell (z0a w _ k0)).trans k0
        replace p0:=eq_true p0
        replace q0:=eq_true q0
        have p9:0≤(x1:Int):=z8 zq21
        have q9:(x1:Int)<((x0.length:Int):Int):=z8 zq21
        obtain ⟨go9,co9,eo9,gb9,gl9,cl9,HG9⟩:=Kd.R_form O1.1 zq9
        (first|cases eo9|(injection eo9 with ea_ en_ ec_;(first|subst ea_|(injection ea_ with ea_;subst ea_));subst ec_;clear en_))
        have GB9:=zz gb9
        clear gb9 gl9 HG9
        obtain ⟨hx9_0,hf9_0⟩:=Kd.R_celln (⟨#[]⟩:ByteArray) O1.1 (x1:Int) p9 q9
        replace p9:=eq_true p9
        replace q9:=eq_true q9
        have HP10:=Kd.R_putg O1.1 (x1:Int) (zcc ByteArray.empty l0 x1)
        go_wp2_with (first|((with_reducible refine zm (t:=9) (p:=20) rfl ?_);refine zGa (t:=9) (p:=20) (v:= ?vo_w11) (w1:=(wr.setCell ⟨go9,(x1:Int).toNat,none⟩ (.string (zcc ByteArray.empty l0 x1)))) ?hg ?ho ?hn ?hr ?_;(case ho=>rfl);(case hg=>rfl);(case hn=>rfl);(case hr=>first|(go_simp;done)|(go_simp;rfl));intro w5 hw;have hg:wr.grownBy w5 (some go9):=(by rw [hw];exact HP10.2);have hp_:Kd.R Kd.string 9 w5 w.heap.size (fun _=>True) (.slice (some ⟨go9,0,none⟩) x0.length co9) y1:=(by rw [hw,Y1.1];exact HP10.1);clear HP10;replace O1:=zz hp_;replace HB:=zz (zq108 GB9.1:Below w.heap.size w w5);clear hg hw hp_))
        exact zq160
       ·rw [if_neg c8] at H
        exact absurd H zq38
      ·exact zq176
     ·exact zq158
  ·exact zq166
 ·exact zq211
def laws_toPut.f (a0_0:Int) (a0_1:ByteArray):Option (Int×ByteArray):=some (a0_0,a0_1)
theorem laws_toPut.calls (a0:Int) (a1:ByteArray) (r1:Int) (r2:ByteArray) (w:World) (h:laws_toPut.f a0 a1=some (r1,r2)):
  Calls Tryz.prog 132 #[.agg #[.int .i64 a0,.string a1]] w fun e w'=>e= .returned (.agg #[.int .i64 r1,.string r2])∧Below w.heap.size w w':=by
 have hu140:=Tryz.underlying156
 have hu135:=Tryz.underlying110
 have HB:=zz (z1a w.heap.size w)
 have H:(some (a0,a1))=some (r1,r2):=h
 clear h
 simp only [Option.some.injEq,Prod.mk.injEq] at H
 obtain ⟨rfl,rfl⟩:=H
 go_enter Tryz.func132,Tryz.ntmps132
 go_wp2_with (first|((with_reducible refine zd (N:=1) rfl ?_);refine zx rfl (N:=1) rfl (cs:= #[.int .i64 a0,.string a1]) (t:=156) zq27 ?_;intro g0 hg w2 hbox hb;have B0:=zz hbox;have G0:=zz (zq15:w.heap.size≤g0);replace HB:=zz (ze zq0 hb);clear hb hbox hg)|((with_reducible refine zd (N:=2) rfl ?_);refine zx rfl (N:=2) rfl (cs:= #[.int .i64 0,.string (⟨#[]⟩:ByteArray)]) (t:=110) zq27 ?_;intro g1 hg w3 hbox hb;have B2:=zz hbox;have G1:=zz (zq25 G0.1:w.heap.size≤g1);have N0:=zz (zq97 B0.1:g0≠g1);have N1:=zz (zq98 B0.1:g1≠g0);replace B0:=zz (zg (g:=g0) (o:= .cells #[.int .i64 a0,.string a1] 156 (0,0)) (zq1 B0.1) hb);replace HB:=zz (ze (zq4 G0.1) hb);clear hb hbox hg)|((with_reducible refine zd (N:=3) rfl ?_);refine zx rfl (N:=3) rfl (cs:= #[.int .i64 0,.string (⟨#[]⟩:ByteArray)]) (t:=110) zq27 ?_;intro g2 hg w4 hbox hb;have B4:=zz hbox;have G2:=zz (zq35 G0.1 G1.1:w.heap.size≤g2);have N2:=zz (zq97 B0.1:g0≠g2);have N3:=zz (zq98 B0.1:g2≠g0);have N4:=zz (by rw [hg];exact z8a (zP (g:=g1) (o:= .cells #[.int .i64 0,.string (⟨#[]⟩:ByteArray)] 110 (0,0)) (zq1 B2.1)):g1≠g2);have N5:=zz (by rw [hg];exact z7a (zP (g:=g1) (o:= .cells #[.int .i64 0,.string (⟨#[]⟩:ByteArray)] 110 (0,0)) (zq1 B2.1)):g2≠g1);replace B0:=zz (zg (g:=g0) (o:= .cells #[.int .i64 a0,.string a1] 156 (0,0)) (zq1 B0.1) hb);replace B2:=zz (zg (g:=g1) (o:= .cells #[.int .i64 0,.string (⟨#[]⟩:ByteArray)] 110 (0,0)) (zq1 B2.1) hb);replace HB:=zz (ze (zq5 G0.1 G1.1) hb);clear hb hbox hg;have hnb5:=N0.1;have hnc5:=N1.1;have hnb6:=N2.1;have hnc6:=N3.1;obtain ⟨_,_,_,_⟩:=zV B0.1;have hnb8:=N5.1;have hnc8:=N4.1;obtain ⟨_,_,_,_⟩:=zV B4.1;obtain ⟨_,_,_,_⟩:=zV B2.1))
 refine bodyPost_ret (results_cell_row rfl _ _ g1 110 #[.int .i64 a0,.string a1] (0,0) _ rfl (by (with_reducible repeat (first|refine zk ?_ _|refine zl ?_|refine zh ?_ _));refine zW (cs:= #[.int .i64 a0,.string (⟨#[]⟩:ByteArray)]) ?_ 1 _ rfl;(with_reducible repeat (first|refine zk ?_ _|refine zl ?_|refine zh ?_ _));refine zW (cs:= #[.int .i64 0,.string (⟨#[]⟩:ByteArray)]) ?_ 0 _ rfl;(with_reducible repeat (first|refine zk ?_ _|refine zl ?_|refine zh ?_ _));refine zka ?_ N4.1 _;(with_reducible repeat (first|refine zk ?_ _|refine zl ?_|refine zh ?_ _));refine zka ?_ N4.1 _;(with_reducible repeat (first|refine zk ?_ _|refine zl ?_|refine zh ?_ _));exact B2.1) Tryz.underlying110 rfl zq13) rfl ?_
 exact ⟨zq16,zq11 G0.1 G1.1 G2.1⟩
def laws_toPutS.l0:Nat→List (S156)→List (S110)→Int→Option ((List (S110)))
 |0,_,_,_=>none
 |k+1,x0,x3,x4=>if x4<(x0.length:Int) then (if 0≤x4 then ((laws_toPut.f ((zHa x0 x4).f0) ((zHa x0 x4).f1)).bind fun bt173=>(if x4<(x3.length:Int) then (laws_toPutS.l0 k x0 (x3.set (x4:Int).toNat (⟨bt173.1,bt173.2⟩:S110)) (wrap64 (x4+1))) else (none))) else (none)) else (some x3)
def laws_toPutS.f (k:Nat) (l0:List (S156)):Option ((List (S110))):=if 0≤(l0.length:Int) then (if ((l0.length:Int):Int).toNat≤11728124029610 then (laws_toPutS.l0 k l0 (List.replicate ((l0.length:Int):Int).toNat z110) 0) else (none)) else (none)
theorem laws_toPutS.mono_l:∀k,(∀y0 y1 y2,LeO (laws_toPutS.l0 k y0 y1 y2) (laws_toPutS.l0 (k+1) y0 y1 y2))
 |0=>fun _ _ _ r h=>by simp [laws_toPutS.l0] at h
 |k+1=>by
  have ih0:=laws_toPutS.mono_l k
  ·intro y0 y1 y2
   unfold laws_toPutS.l0
   exact zq145
theorem laws_toPutS.mono:∀a0 k,LeO (laws_toPutS.f k a0) (laws_toPutS.f (k+1) a0):=by
 intro a0 k
 have ih0:=laws_toPutS.mono_l k
 unfold laws_toPutS.f
 exact zq144
theorem laws_toPutS.calls (k:Nat) (A0:Option Addr) (c0:Nat) (l0:List (S156)) (r:List (S110)) (w:World) (hr0:Kd.C k156 w A0 l0.length l0) (hc0:l0.length≤c0) (h:laws_toPutS.f k l0=some r):
  Calls Tryz.prog 109 #[.slice A0 l0.length c0] w fun e w'=>∃v0:Value,e= .returned (v0)∧Kd.R k110 110 w' w.heap.size (fun _=>True) v0 r∧Below w.heap.size w w':=by
 have hu140:=Tryz.underlying156
 have hu135:=Tryz.underlying110
 have HR0:=zz hr0
 clear hr0 hc0
 have HB:=zz (z1a w.heap.size w)
 have H:(if 0≤(l0.length:Int) then (if ((l0.length:Int):Int).toNat≤11728124029610 then (laws_toPutS.l0 k l0 (List.replicate ((l0.length:Int):Int).toNat z110) 0) else (none)) else (none))=some r:=h
 clear h
 by_cases c2:0≤(l0.length:Int)
 ·rw [if_pos c2] at H
  have c2b0:=eq_true c2
  have c2b1:=z6 c2
  clear c2
  by_cases c3:((l0.length:Int):Int).toNat≤11728124029610
  ·rw [if_pos c3] at H
   have c3b0:=eq_true c3
   have c3b1:=z6 c3
   clear c3
   obtain ⟨y0,i0⟩:∃y_:List (S110),y_=(List.replicate ((l0.length:Int):Int).toNat z110):=⟨_,rfl⟩
   replace H:(laws_toPutS.l0 k l0 y0 0)=some r:=zq20
   have Y0:=zz i0
   clear i0
   have H':=zz H
   clear H
   go_enter Tryz.func109,Tryz.ntmps109
   go_wp2_with (first|((with_reducible refine zd (N:=7) rfl ?_);refine Kd.R_make k110 _ 110 rfl (N:=7) rfl 35 _ _ rfl (l0.length:Int) rfl rfl Tryz.underlying35 (.agg #[(.int .i64 0),(.string ⟨#[]⟩)]) 24 info110 rfl zq31 zq9 z110 (ok:=fun _=>True) (okp:=fun _=>True) (k110_mkM _ _ _ z110) (fun _ hk=>hk) trivial (z8 zq21) (z5a (z9a _ (z8 zq21:(l0.length:Int).toNat≤11728124029610)) zq9) (z1a _ _) (z3a _) ?_;intro v1 w4 ho5 hb hg_ hnew_;clear hg_ hnew_;(first|rw [←Y0.1] at ho5|(simp only [Int.reduceToNat] at ho5;rw [←Y0.1] at ho5));have O0:=zz (Kd.R_lower ho5 (zD zq0));replace HB:=zz (ze zq0 hb);clear hb ho5))
   go_loopg [4] k (fun kq v4 w'=>∃(x0:List (S110)) (x1:Int),v4= .int .i64 x1∧Z0 (laws_toPutS.l0 kq l0 x0 x1=some r)∧Z0 (kq≤k)∧Z0 (Kd.R k110 110 w' w.heap.size (fun _=>True) v1 x0)∧Z0 (Below w.heap.size w w'))
   case atStart=>exact ⟨(y0),(0),zq18,H',⟨z3a _⟩,⟨by (with_reducible repeat (first|apply Kd.R_alloc|apply Kd.R_drewN|apply Kd.R_drew));exact O0.1⟩,⟨zq0⟩⟩
   case round=>
    clear H'
    try clear c2
    try clear c2b0
    try clear c2b1
    try clear c3
    try clear c3b0
    try clear c3b1
    obtain ⟨x0,x1,rfl,HA,HK1,O1,HB⟩:=hrel
    cases gk with
    |zero=>exact absurd HA.1 (by simp [laws_toPutS.l0])
    |succ k1=>
     have H:=HA.1
     clear HA
     simp only [laws_toPutS.l0] at H
     by_cases c6:x1<(l0.length:Int)
     ·rw [if_pos c6] at H
      have c6b0:=z6 c6
      clear c6
      by_cases c7:0≤x1
      ·rw [if_pos c7] at H
       have c7b0:=z6 c7
       clear c7
       replace H:=z2a H
       obtain ⟨⟨t0,t1⟩,A1,H⟩:=H
       replace H:(if x1<(x0.length:Int) then (laws_toPutS.l0 k1 l0 (x0.set (x1:Int).toNat (⟨t0,t1⟩:S110)) (wrap64 (x1+1))) else (none))=some r:=H
       have A8:=zz A1
       clear A1
       by_cases c9:x1<(x0.length:Int)
       ·rw [if_pos c9] at H
        have c9b0:=z6 c9
        clear c9
        obtain ⟨y1,i1⟩:∃y_:List (S110),y_=(x0.set (x1:Int).toNat (⟨t0,t1⟩:S110)):=⟨_,rfl⟩
        replace H:(laws_toPutS.l0 k1 l0 y1 (wrap64 (x1+1)))=some r:=zq34
        have Y1:=zz i1
        clear i1
        have H':=zz H
        clear H
        have p0:0≤(x1:Int):=z8 zq21
        have q0:x1<(l0.length:Int):=z8 zq21
        obtain ⟨ad172,e0,k0,k2⟩:=at_T156 HR0.1 x1 p0 q0
        cases e0
        replace k0:=(HB.1.cell (z0a w _ k0)).trans k0
        replace k2:=(HB.1.cell (z0a w _ k2)).trans k2
        replace p0:=eq_true p0
        replace q0:=eq_true q0
        go_wp2_with (first|((with_reducible refine zr (f:=132) rfl ?_);refine zN (some 20) rfl rfl Tryz.func132 zq13 rfl #[.agg #[.int .i64 ((zHa l0 x1).f0),.string ((zHa l0 x1).f1)]] rfl zq8 ?_;(with_reducible refine (laws_toPut.calls ((zHa l0 x1).f0) ((zHa l0 x1).f1) t0 t1 _ A8.1).mono ?_);rintro e w5 ⟨rfl,hb⟩;refine ⟨_,rfl,?_⟩;replace O1:=zz (Kd.R_below (zq17 O1.1) hb);replace HB:=zz (ze zq0 hb);(try clear hb);(try clear hb2);(try clear hk);(try clear hi);have p1:0≤(x1:Int):=z8 zq21;have q1:(x1:Int)<((x0.length:Int):Int):=z8 zq21;obtain ⟨go10,c1,e1,g0,gl10,cl10,HG10⟩:=Kd.R_form O1.1 zq9;(first|cases e1|(injection e1 with ea_ en_ ec_;(first|subst ea_|(injection ea_ with ea_;subst ea_));subst ec_;clear en_));have GB10:=zz g0;clear g0 gl10 HG10;obtain ⟨ce10,hcl10,hM10,hcc10,hfr10⟩:=Kd.R_elem O1.1 z110 (x1:Int) p1 q1;obtain rfl:=zDb hM10;have hx10_0:w5.cell? ⟨go10,(x1:Int).toNat*2,none⟩=some (.int .i64 ((zv x0 x1).f0)):=hcc10 0 _ rfl;have hx10_1:w5.cell? ⟨go10,(x1:Int).toNat*2+1,none⟩=some (.string ((zv x0 x1).f1)):=hcc10 1 _ rfl;have hf10_0:w5.frozen? ⟨go10,(x1:Int).toNat*2,none⟩=false:=hfr10 0;have hf10_1:w5.frozen? ⟨go10,(x1:Int).toNat*2+1,none⟩=false:=hfr10 1;clear hcl10 hcc10 hfr10 hM10;replace p1:=eq_true p1;replace q1:=eq_true q1;have HX12:=zz (show Kd.R k110 110 w5 w.heap.size (fun _=>True) (.slice (some ⟨go10,0,none⟩) x0.length c1) x0 from (zq17 O1.1));obtain ⟨ce12,hcl12,hM12,hcc12,hfr12⟩:=Kd.R_elem HX12.1 z110 (x1:Int) (z8 zq21) (zq105 O1.1);obtain rfl:=zDb hM12;have HP12:=Kd.R_seg HX12.1 (x1:Int) (z8 zq21) (zq105 O1.1) (seg:=[.int .i64 t0,.string t1]) (j:=0) hcl12 hcc12 (show 2≤2 from by decide) (x':=(⟨t0,t1⟩:S110)) (k110_mkM _ _ _ (⟨t0,t1⟩:S110)) (fun _ hk=>hk);have k3:=hcc12 0 _ rfl;(try simp only [show (k110).sz=2 from rfl,Nat.mul_one,Nat.add_zero] at k3);have hf12_0:=hfr12 0;(try simp only [show (k110).sz=2 from rfl,Nat.mul_one,Nat.add_zero] at hf12_0);have k4:=hcc12 1 _ rfl;(try simp only [show (k110).sz=2 from rfl,Nat.mul_one,Nat.add_zero] at k4);have hf12_1:=hfr12 1;(try simp only [show (k110).sz=2 from rfl,Nat.mul_one,Nat.add_zero] at hf12_1);clear hcl12 hcc12 hfr12 hM12)|((with_reducible refine zm (t:=110) (p:=21) rfl ?_);refine zGa (t:=110) (p:=21) (v:= ?vo_w13) (w1:=((w5.setCell ⟨go10,(x1:Int).toNat*2,none⟩ (.int .i64 t0)).setCell ⟨go10,(x1:Int).toNat*2+1,none⟩ (.string t1))) ?hg ?ho ?hn ?hr ?_;(case ho=>rfl);(case hg=>rfl);(case hn=>rfl);(case hr=>first|(go_simp;done)|(go_simp;rfl));intro w6 hw;have hg:w5.grownBy w6 (some go10):=(by rw [hw];exact HP12.2);have hp_:Kd.R k110 110 w6 w.heap.size (fun _=>True) (.slice (some ⟨go10,0,none⟩) x0.length c1) y1:=(by rw [hw,Y1.1];exact HP12.1);clear HP12;replace O1:=zz hp_;replace HB:=zz (by rw [hw];exact zZ (zZ (HB.1) GB10.1) GB10.1:Below w.heap.size w w6);clear hg hw hp_))
        exact zq160
       ·rw [if_neg c9] at H
        exact absurd H zq38
      ·exact zq176
     ·exact zq158
  ·exact zq166
 ·exact zq211
def laws_toDisk.f (k:Nat) (l0_0:List ByteArray) (l0_1:List (S156)):Option (List ByteArray×(List (S110))):=(laws_toStringS.f k l0_0).bind fun t179=>((laws_toPutS.f k l0_1).bind fun t182=>(some (t179,t182)))
theorem laws_toDisk.calls (k:Nat) (A0:Option Addr) (c0:Nat) (l2:List ByteArray) (A1:Option Addr) (c1:Nat) (l3:List (S156)) (r1:List ByteArray) (r2:List (S110)) (w:World) (r0:Kd.C Kd.string w A0 l2.length l2) (h0:l2.length≤c0) (r3:Kd.C k156 w A1 l3.length l3) (h2:l3.length≤c1) (h:laws_toDisk.f k l2 l3=some (r1,r2)):
  Calls Tryz.prog 66 #[.agg #[.slice A0 l2.length c0,.slice A1 l3.length c1]] w fun e w'=>∃v0 v1:Value,e= .returned (.agg #[v0,v1])∧Kd.R Kd.string 9 w' w.heap.size (fun _=>True) v0 r1∧Kd.R k110 110 w' w.heap.size (fun _=>True) v1 r2∧Below w.heap.size w w':=by
 have hu25:=Tryz.underlying28
 have hu32:=Tryz.underlying37
 have R0:=zz r0
 have C0:=zz h0
 clear r0 h0
 have R1:=zz r3
 have C1:=zz h2
 clear r3 h2
 have HB:=zz (z1a w.heap.size w)
 have H:((laws_toStringS.f k l2).bind fun t0=>((laws_toPutS.f k l3).bind fun t1=>(some (t0,t1))))=some (r1,r2):=h
 clear h
 replace H:=z2a H
 obtain ⟨t0,A4,H⟩:=H
 replace H:((laws_toPutS.f k l3).bind fun t1=>(some (t0,t1)))=some (r1,r2):=H
 have A2:=zz A4
 clear A4
 replace H:=z2a H
 obtain ⟨t1,A5,H⟩:=H
 replace H:(some (t0,t1))=some (r1,r2):=H
 have A3:=zz A5
 clear A5
 simp only [Option.some.injEq,Prod.mk.injEq] at H
 obtain ⟨rfl,rfl⟩:=H
 go_enter Tryz.func66,Tryz.ntmps66
 go_wp2_with (first|((with_reducible refine zd (N:=1) rfl ?_);refine zx rfl (N:=1) rfl (cs:= #[.slice A0 l2.length c0,.slice A1 l3.length c1]) (t:=28) zq27 ?_;intro g0 hg w4 hbox hb;have B0:=zz hbox;have G0:=zz (zq15:w.heap.size≤g0);replace HB:=zz (ze zq0 hb);clear hb hbox hg)|((with_reducible refine zd (N:=2) rfl ?_);refine zx rfl (N:=2) rfl (cs:= #[.slice none 0 0,.slice none 0 0]) (t:=37) zq27 ?_;intro g1 hg w5 hbox hb;have B2:=zz hbox;have G1:=zz (zq25 G0.1:w.heap.size≤g1);have N0:=zz (zq87 B0.1:g0≠g1);have N1:=zz (zq88 B0.1:g1≠g0);replace B0:=zz (zg (g:=g0) (o:= .cells #[.slice A0 l2.length c0,.slice A1 l3.length c1] 28 (0,0)) (zq1 B0.1) hb);replace HB:=zz (ze (zq4 G0.1) hb);clear hb hbox hg)|((with_reducible refine zd (N:=3) rfl ?_);refine zx rfl (N:=3) rfl (cs:= #[.slice none 0 0,.slice none 0 0]) (t:=37) zq27 ?_;intro g2 hg w6 hbox hb;have B4:=zz hbox;have G2:=zz (zq35 G0.1 G1.1:w.heap.size≤g2);have N2:=zz (zq87 B0.1:g0≠g2);have N3:=zz (zq88 B0.1:g2≠g0);have N4:=zz (zq43 B2.1:g1≠g2);have N5:=zz (zq44 B2.1:g2≠g1);replace B0:=zz (zg (g:=g0) (o:= .cells #[.slice A0 l2.length c0,.slice A1 l3.length c1] 28 (0,0)) (zq1 B0.1) hb);replace B2:=zz (zg (g:=g1) (o:= .cells #[.slice none 0 0,.slice none 0 0] 37 (0,0)) (zq1 B2.1) hb);replace HB:=zz (ze (zq5 G0.1 G1.1) hb);clear hb hbox hg;have hnb7:=N0.1;have hnc7:=N1.1;have hnb8:=N2.1;have hnc8:=N3.1;obtain ⟨_,_,_,_⟩:=zV B0.1)|((with_reducible refine zr (f:=108) rfl ?_);refine zN (some 6) rfl rfl Tryz.func108 zq13 rfl #[.slice A0 l2.length c0] rfl zq8 ?_;(with_reducible refine (laws_toStringS.calls k _ _ l2 t0 _ ?side1 ?side2 A2.1).mono ?_);(case side1=>repeat (first|exact (Kd.C_below R0.1 HB.1)|(with_reducible refine Kd.C_alloc ?_ _)|(with_reducible refine Kd.C_drewN ?_ _)|(with_reducible refine Kd.C_drew ?_)));(case side2=>exact C0.1);rintro e w10 ⟨v180,rfl,ho0,hb⟩;refine ⟨_,rfl,?_⟩;(first|have rs_v180:=zga (P:=Tryz.prog) ho0|have rs_v180:=zga (P:=Tryz.prog) (Kd.S_R ho0)|skip);have O0:=zz (Kd.R_lower ho0 (zD (zq11 G0.1 G1.1 G2.1)));replace B0:=zz (zg (g:=g0) (o:= .cells #[.slice A0 l2.length c0,.slice A1 l3.length c1] 28 (0,0)) (zq1 B0.1) hb);replace B2:=zz (zg (g:=g1) (o:= .cells #[.slice none 0 0,.slice none 0 0] 37 (0,0)) (zq1 B2.1) hb);replace B4:=zz (zg (g:=g2) (o:= .cells #[.slice none 0 0,.slice none 0 0] 37 (0,0)) (zq1 B4.1) hb);replace HB:=zz (ze (zq11 G0.1 G1.1 G2.1) hb);(try clear hb);(try clear hb2);(try clear hk);(try clear hi);(try clear ho0);obtain ⟨A6,c11,e0⟩:=Kd.R_slice O0.1;subst e0;have hnb12:=N5.1;have hnc12:=N4.1;obtain ⟨_,_,_,_⟩:=zV B4.1;obtain ⟨_,_,_,_⟩:=zV B0.1)|((with_reducible refine zr (f:=109) rfl ?_);refine zN (some 10) rfl rfl Tryz.func109 zq13 rfl #[.slice A1 l3.length c1] rfl zq8 ?_;(with_reducible refine (laws_toPutS.calls k _ _ l3 t1 _ ?side1 ?side2 A3.1).mono ?_);(case side1=>exact Kd.C_below R1.1 (zq11 G0.1 G1.1 G2.1));(case side2=>exact C1.1);rintro e w15 ⟨v183,rfl,ho0,hb⟩;refine ⟨_,rfl,?_⟩;(first|have rs_v183:=zga (P:=Tryz.prog) ho0|have rs_v183:=zga (P:=Tryz.prog) (Kd.S_R ho0)|skip);have O1:=zz (Kd.R_lower ho0 (zD (zq11 G0.1 G1.1 G2.1)));replace O0:=zz (Kd.R_below (by (with_reducible repeat (first|apply Kd.R_alloc|apply Kd.R_drewN|apply Kd.R_drew));exact (Kd.R_mono (Kd.R_far (p:=⟨g2,0,none⟩) (Kd.R_types O0.1 B4.1 zq31) (fun _ hk=>hk.2) (.slice A6 t0.length c11)) (fun _ h_=>h_.1))) hb);replace B0:=zz (zg (g:=g0) (o:= .cells #[.slice A0 l2.length c0,.slice A1 l3.length c1] 28 (0,0)) (zq46 N2.1 B0.1) hb);replace B2:=zz (zg (g:=g1) (o:= .cells #[.slice none 0 0,.slice none 0 0] 37 (0,0)) (zq46 N4.1 B2.1) hb);replace B4:=zz (zg (g:=g2) (o:= .cells #[.slice A6 t0.length c11,.slice none 0 0] 37 (0,0)) (by (with_reducible repeat (first|refine zk ?_ _|refine zl ?_|refine zh ?_ _));refine zW (cs:= #[.slice none 0 0,.slice none 0 0]) ?_ 0 _ rfl;(with_reducible repeat (first|refine zk ?_ _|refine zl ?_|refine zh ?_ _));exact B4.1) hb);replace HB:=zz (ze (zq11 G0.1 G1.1 G2.1) hb);(try clear hb);(try clear hb2);(try clear hk);(try clear hi);(try clear ho0);obtain ⟨A7,c12,e1⟩:=Kd.R_slice O1.1;subst e1;obtain ⟨_,_,_,_⟩:=zV B4.1;obtain ⟨_,_,_,_⟩:=zV B2.1))
 refine bodyPost_ret (results_cell_row rfl _ _ g1 37 #[.slice A6 t0.length c11,.slice A7 t1.length c12] (0,0) _ rfl (by (with_reducible repeat (first|refine zk ?_ _|refine zl ?_|refine zh ?_ _));refine zW (cs:= #[.slice A6 t0.length c11,.slice none 0 0]) ?_ 1 _ rfl;(with_reducible repeat (first|refine zk ?_ _|refine zl ?_|refine zh ?_ _));refine zW (cs:= #[.slice none 0 0,.slice none 0 0]) ?_ 0 _ rfl;(with_reducible repeat (first|refine zk ?_ _|refine zl ?_|refine zh ?_ _));refine zka ?_ N4.1 _;(with_reducible repeat (first|refine zk ?_ _|refine zl ?_|refine zh ?_ _));exact B2.1) Tryz.underlying37 rfl zq13) rfl ?_
 exact ⟨_,_,zq16,zq61 O0.1 B4.1 B2.1,zq61 O1.1 B4.1 B2.1,zq11 G0.1 G1.1 G2.1⟩
def laws_toIntS.l0:Nat→List Int→List Int→Int→Option (List Int)
 |0,_,_,_=>none
 |k+1,x0,x3,x4=>if x4<(x0.length:Int) then (if 0≤x4 then (if x4<(x3.length:Int) then (laws_toIntS.l0 k x0 (x3.set (x4:Int).toNat (rd x0 x4)) (wrap64 (x4+1))) else (none)) else (none)) else (some x3)
def laws_toIntS.f (k:Nat) (l0:List Int):Option (List Int):=if 0≤(l0.length:Int) then (if ((l0.length:Int):Int).toNat≤35184372088832 then (laws_toIntS.l0 k l0 (List.replicate ((l0.length:Int):Int).toNat 0) 0) else (none)) else (none)
theorem laws_toIntS.mono_l:∀k,(∀y0 y1 y2,LeO (laws_toIntS.l0 k y0 y1 y2) (laws_toIntS.l0 (k+1) y0 y1 y2))
 |0=>fun _ _ _ r h=>by simp [laws_toIntS.l0] at h
 |k+1=>by
  have ih0:=laws_toIntS.mono_l k
  ·intro y0 y1 y2
   unfold laws_toIntS.l0
   exact zq145
theorem laws_toIntS.mono:∀a0 k,LeO (laws_toIntS.f k a0) (laws_toIntS.f (k+1) a0):=by
 intro a0 k
 have ih0:=laws_toIntS.mono_l k
 unfold laws_toIntS.f
 exact zq144
theorem laws_toIntS.calls (k:Nat) (A0:Option Addr) (c0:Nat) (l0:List Int) (r:List Int) (w:World) (hr0:Kd.C (Kd.int .i64) w A0 l0.length l0) (hc0:l0.length≤c0) (h:laws_toIntS.f k l0=some r):
  Calls Tryz.prog 85 #[.slice A0 l0.length c0] w fun e w'=>∃v0:Value,e= .returned (v0)∧Kd.R (Kd.int .i64) 3 w' w.heap.size (fun _=>True) v0 r∧Below w.heap.size w w':=by
 have HR0:=zz hr0
 clear hr0 hc0
 have HB:=zz (z1a w.heap.size w)
 have H:(if 0≤(l0.length:Int) then (if ((l0.length:Int):Int).toNat≤35184372088832 then (laws_toIntS.l0 k l0 (List.replicate ((l0.length:Int):Int).toNat 0) 0) else (none)) else (none))=some r:=h
 clear h
 by_cases c2:0≤(l0.length:Int)
 ·rw [if_pos c2] at H
  have c2b0:=eq_true c2
  have c2b1:=z6 c2
  clear c2
  by_cases c3:((l0.length:Int):Int).toNat≤35184372088832
  ·rw [if_pos c3] at H
   have c3b0:=eq_true c3
   have c3b1:=z6 c3
   clear c3
   obtain ⟨y0,i0⟩:∃y_:List Int,y_=(List.replicate ((l0.length:Int):Int).toNat 0):=⟨_,rfl⟩
   replace H:(laws_toIntS.l0 k l0 y0 0)=some r:=zq20
   have Y0:=zz i0
   clear i0
   have H':=zz H
   clear H
   go_enter Tryz.func85,Tryz.ntmps85
   go_wp2_with (first|((with_reducible refine zd (N:=7) rfl ?_);refine Kd.R_make (Kd.int .i64) _ 3 rfl (N:=7) rfl 29 _ _ rfl (l0.length:Int) rfl rfl Tryz.underlying29 (.int .i64 0) 8 info3 rfl zq31 zq9 0 (ok:=fun _=>True) (okp:=fun _=>True) rfl (fun _ hk=>hk) trivial (z8 zq21) (z5a (z9a _ (z8 zq21:(l0.length:Int).toNat≤35184372088832)) zq9) (z1a _ _) (z3a _) ?_;intro v1 w4 ho5 hb hg_ hnew_;clear hg_ hnew_;(first|rw [←Y0.1] at ho5|(simp only [Int.reduceToNat] at ho5;rw [←Y0.1] at ho5));have O0:=zz (Kd.R_lower ho5 (zD zq0));replace HB:=zz (ze zq0 hb);clear hb ho5))
   go_loopg [4] k (fun kq v4 w'=>∃(x0:List Int) (x1:Int),v4= .int .i64 x1∧Z0 (laws_toIntS.l0 kq l0 x0 x1=some r)∧Z0 (kq≤k)∧Z0 (Kd.R (Kd.int .i64) 3 w' w.heap.size (fun _=>True) v1 x0)∧Z0 (Below w.heap.size w w'))
   case atStart=>exact ⟨(y0),(0),zq18,H',⟨z3a _⟩,⟨by (with_reducible repeat (first|apply Kd.R_alloc|apply Kd.R_drewN|apply Kd.R_drew));exact O0.1⟩,⟨zq0⟩⟩
   case round=>
    clear H'
    try clear c2
    try clear c2b0
    try clear c2b1
    try clear c3
    try clear c3b0
    try clear c3b1
    obtain ⟨x0,x1,rfl,HA,HK1,O1,HB⟩:=hrel
    cases gk with
    |zero=>exact absurd HA.1 (by simp [laws_toIntS.l0])
    |succ k1=>
     have H:=HA.1
     clear HA
     simp only [laws_toIntS.l0] at H
     by_cases c6:x1<(l0.length:Int)
     ·rw [if_pos c6] at H
      have c6b0:=z6 c6
      clear c6
      by_cases c7:0≤x1
      ·rw [if_pos c7] at H
       have c7b0:=z6 c7
       clear c7
       by_cases c8:x1<(x0.length:Int)
       ·rw [if_pos c8] at H
        have c8b0:=z6 c8
        clear c8
        obtain ⟨y1,i1⟩:∃y_:List Int,y_=(x0.set (x1:Int).toNat (rd l0 x1)):=⟨_,rfl⟩
        replace H:(laws_toIntS.l0 k1 l0 y1 (wrap64 (x1+1)))=some r:=zq34
        have Y1:=zz i1
        clear i1
        have H':=zz H
        clear H
        have p0:0≤(x1:Int):=z8 zq21
        have q0:x1<(l0.length:Int):=z8 zq21
        obtain ⟨ad188,e0,k0⟩:=Kd.at_int HR0.1 x1 p0 q0
        cases e0
        replace k0:=(HB.1.cell (z0a w _ k0)).trans k0
        replace p0:=eq_true p0
        replace q0:=eq_true q0
        have p9:0≤(x1:Int):=z8 zq21
        have q9:(x1:Int)<((x0.length:Int):Int):=z8 zq21
        obtain ⟨go9,co9,eo9,gb9,gl9,cl9,HG9⟩:=Kd.R_form O1.1 zq9
        (first|cases eo9|(injection eo9 with ea_ en_ ec_;(first|subst ea_|(injection ea_ with ea_;subst ea_));subst ec_;clear en_))
        have GB9:=zz gb9
        clear gb9 gl9 HG9
        obtain ⟨hx9_0,hf9_0⟩:=Kd.R_celln 0 O1.1 (x1:Int) p9 q9
        replace p9:=eq_true p9
        replace q9:=eq_true q9
        have HP10:=Kd.R_putg O1.1 (x1:Int) (rd l0 x1)
        go_wp2_with (first|((with_reducible refine zm (t:=3) (p:=20) rfl ?_);refine zGa (t:=3) (p:=20) (v:= ?vo_w11) (w1:=(wr.setCell ⟨go9,(x1:Int).toNat,none⟩ (.int .i64 (rd l0 x1)))) ?hg ?ho ?hn ?hr ?_;(case ho=>rfl);(case hg=>rfl);(case hn=>rfl);(case hr=>first|(go_simp;done)|(go_simp;rfl));intro w5 hw;have hg:wr.grownBy w5 (some go9):=(by rw [hw];exact HP10.2);have hp_:Kd.R (Kd.int .i64) 3 w5 w.heap.size (fun _=>True) (.slice (some ⟨go9,0,none⟩) x0.length co9) y1:=(by rw [hw,Y1.1];exact HP10.1);clear HP10;replace O1:=zz hp_;replace HB:=zz (zq108 GB9.1:Below w.heap.size w w5);clear hg hw hp_))
        exact zq160
       ·rw [if_neg c8] at H
        exact absurd H zq38
      ·exact zq176
     ·exact zq158
  ·exact zq166
 ·exact zq211
def slices_Clone_int_int.f (l0:List Int):Option (List Int):=if l0.length<17592186044416 then some l0 else none
theorem slices_Clone_int_int.calls (A0:Option Addr) (c0:Nat) (l0:List Int) (r:List Int) (w:World) (hr0:Kd.C (Kd.int .i64) w A0 l0.length l0) (hc0:l0.length≤c0) (h:slices_Clone_int_int.f l0=some r):
  Calls Tryz.prog 87 #[.slice A0 l0.length c0] w fun e w'=>∃v0:Value,e= .returned v0∧Kd.R (Kd.int .i64) 3 w' w.heap.size (fun _=>True) v0 r∧Below w.heap.size w w':=by
 unfold slices_Clone_int_int.f at h
 split at h
 ·rename_i hlim
  obtain rfl:=z6a h
  cases A0 with
  |none=>
   have hz:l0=[]:=zq179
   subst hz
   clear hr0 hlim h hc0
   have q:=fun (w:World) (n c n' c':Nat)=>Lib.run_eql_slice_nil (P:=Tryz.prog) w 29 3 none n c n' c' Tryz.underlying29
   go_enter Tryz.func87,Tryz.ntmps87
   go_wp2
   go_ret
   exact ⟨_,rfl,Kd.R_nil _ _ _ _ _,z1a _ _⟩
  |some ad=>
   have HR:=zz hr0
   have HL:=zz hlim
   clear hr0 hc0 h hlim
   have q:=fun (w:World) (a:Addr) (n c n' c':Nat)=>Lib.run_eql_slice_nil (P:=Tryz.prog) w 29 3 (some a) n c n' c' Tryz.underlying29
   go_enter Tryz.func87,Tryz.ntmps87
   go_wp2_with (at_builtin;refine Kd.R_append_rows (Kd.int .i64) (w0:=w) (Rr:=Kd.K (Kd.int .i64) (w.alloc (.cells #[] 3))) w.heap.size rfl (.tmp 5) (.tmp 6) 29 3 (.int .i64 0) 8 rfl Tryz.underlying29 info3 rfl zq31 zq31 (.slice (some ⟨w.heap.size,0,none⟩) 0 0) [] l0 (some ad) l0.length c0 (fun _=>True) (fun _=>False) rfl rfl ⟨fun _ _=>trivial,[],World.ownsRow_made w #[] 0 (z3a _) zq31 zq38,Reps.none _ _⟩ (Kd.C_below HR.1 (zo (z1a _ _) _)) (fun _ _ hk=>hk) (fun _ hk=>hk.elim) (fun _ _=>trivial) (zo (z1a _ _) _) zq38 zq129 ?_;intro v1 w1 hR hB _ _;have H1:=zz hR;have H2:=zz hB;clear hR hB)
   go_ret
   exact ⟨_,rfl,H1.1,H2.1⟩
 ·cases h
def slices_Clone_string_string.f (l0:List ByteArray):Option (List ByteArray):=if l0.length<8796093022208 then some l0 else none
theorem slices_Clone_string_string.calls (A0:Option Addr) (c0:Nat) (l0:List ByteArray) (r:List ByteArray) (w:World) (hr0:Kd.C Kd.string w A0 l0.length l0) (hc0:l0.length≤c0) (h:slices_Clone_string_string.f l0=some r):
  Calls Tryz.prog 93 #[.slice A0 l0.length c0] w fun e w'=>∃v0:Value,e= .returned v0∧Kd.R Kd.string 9 w' w.heap.size (fun _=>True) v0 r∧Below w.heap.size w w':=by
 unfold slices_Clone_string_string.f at h
 split at h
 ·rename_i hlim
  obtain rfl:=z6a h
  cases A0 with
  |none=>
   have hz:l0=[]:=zq179
   subst hz
   clear hr0 hlim h hc0
   have q:=fun (w:World) (n c n' c':Nat)=>Lib.run_eql_slice_nil (P:=Tryz.prog) w 25 9 none n c n' c' Tryz.underlying25
   go_enter Tryz.func93,Tryz.ntmps93
   go_wp2
   go_ret
   exact ⟨_,rfl,Kd.R_nil _ _ _ _ _,z1a _ _⟩
  |some ad=>
   have HR:=zz hr0
   have HL:=zz hlim
   clear hr0 hc0 h hlim
   have q:=fun (w:World) (a:Addr) (n c n' c':Nat)=>Lib.run_eql_slice_nil (P:=Tryz.prog) w 25 9 (some a) n c n' c' Tryz.underlying25
   go_enter Tryz.func93,Tryz.ntmps93
   go_wp2_with (at_builtin;refine Kd.R_append_rows Kd.string (w0:=w) (Rr:=Kd.K Kd.string (w.alloc (.cells #[] 9))) w.heap.size rfl (.tmp 5) (.tmp 6) 25 9 (.string ⟨#[]⟩) 16 rfl Tryz.underlying25 info9 rfl zq31 zq31 (.slice (some ⟨w.heap.size,0,none⟩) 0 0) [] l0 (some ad) l0.length c0 (fun _=>True) (fun _=>False) rfl rfl ⟨fun _ _=>trivial,[],World.ownsRow_made w #[] 0 (z3a _) zq31 zq38,Reps.none _ _⟩ (Kd.C_below HR.1 (zo (z1a _ _) _)) (fun _ _ hk=>hk) (fun _ hk=>hk.elim) (fun _ _=>trivial) (zo (z1a _ _) _) zq38 zq129 ?_;intro v1 w1 hR hB _ _;have H1:=zz hR;have H2:=zz hB;clear hR hB)
   go_ret
   exact ⟨_,rfl,H1.1,H2.1⟩
 ·cases h
def impl_Put.f (l0:List S110):Option (List S110):=if l0.length<5864062014805 then some l0 else none
theorem impl_Put.calls (A0:Option Addr) (c0:Nat) (l0:List S110) (r:List S110) (w:World) (hr0:Kd.C k110 w A0 l0.length l0) (hc0:l0.length≤c0) (h:impl_Put.f l0=some r):
  Calls Tryz.prog 94 #[.slice A0 l0.length c0] w fun e w'=>∃v0:Value,e= .returned v0∧Kd.R k110 110 w' w.heap.size (fun _=>True) v0 r∧Below w.heap.size w w':=by
 unfold impl_Put.f at h
 split at h
 ·rename_i hlim
  obtain rfl:=z6a h
  cases A0 with
  |none=>
   have hz:l0=[]:=zq179
   subst hz
   clear hr0 hlim h hc0
   have q:=fun (w:World) (n c n' c':Nat)=>Lib.run_eql_slice_nil (P:=Tryz.prog) w 35 110 none n c n' c' Tryz.underlying35
   go_enter Tryz.func94,Tryz.ntmps94
   go_wp2
   go_ret
   exact ⟨_,rfl,Kd.R_nil _ _ _ _ _,z1a _ _⟩
  |some ad=>
   have HR:=zz hr0
   have HL:=zz hlim
   clear hr0 hc0 h hlim
   have q:=fun (w:World) (a:Addr) (n c n' c':Nat)=>Lib.run_eql_slice_nil (P:=Tryz.prog) w 35 110 (some a) n c n' c' Tryz.underlying35
   go_enter Tryz.func94,Tryz.ntmps94
   go_wp2_with (at_builtin;refine Kd.R_append_rows k110 (w0:=w) (Rr:=Kd.K k110 (w.alloc (.cells #[] 110))) w.heap.size rfl (.tmp 5) (.tmp 6) 35 110 (.agg #[.int .i64 0,.string ⟨#[]⟩]) 24 rfl Tryz.underlying35 info110 rfl zq31 zq31 (.slice (some ⟨w.heap.size,0,none⟩) 0 0) [] l0 (some ad) l0.length c0 (fun _=>True) (fun _=>False) rfl rfl ⟨fun _ _=>trivial,[],World.ownsRow_made w #[] 0 (z3a _) zq31 zq38,Reps.none _ _⟩ (Kd.C_below HR.1 (zo (z1a _ _) _)) (fun _ _ hk=>hk) (fun _ hk=>hk.elim) (fun _ _=>trivial) (zo (z1a _ _) _) zq38 zq129 ?_;intro v1 w1 hR hB _ _;have H1:=zz hR;have H2:=zz hB;clear hR hB)
   go_ret
   exact ⟨_,rfl,H1.1,H2.1⟩
 ·cases h
def impl_cloneDisk.f (l0_0:List ByteArray) (l0_1:List (S110)):Option (List ByteArray×(List (S110))):=(slices_Clone_string_string.f l0_0).bind fun t210=>((impl_Put.f l0_1).bind fun t213=>(some (t210,t213)))
def impl_cloneDisk.T1:Bool×List (List Nat×List Nat):=(true,[([],[]),([0],[0]),([1],[1]),([],[]),([3],[3]),([4,2],[4]),([2,5],[2,5]),([6,5,0,1,2,3,4,5,6],[6])])
def impl_cloneDisk.B1:List Nat:=[0,1,3,0,8,31,63,127]
theorem impl_cloneDisk.tab1:rtab .any (zFa Tryz.f46 1)=impl_cloneDisk.T1:=zq13
theorem impl_cloneDisk.bits1:zQa impl_cloneDisk.T1.2 impl_cloneDisk.B1=true:=zq13
theorem impl_cloneDisk.calls (A0:Option Addr) (c0:Nat) (l2:List ByteArray) (A1:Option Addr) (c1:Nat) (l3:List (S110)) (r1:List ByteArray) (r2:List (S110)) (w:World) (r0:Kd.C Kd.string w A0 l2.length l2) (h0:l2.length≤c0) (r3:Kd.C k110 w A1 l3.length l3) (h2:l3.length≤c1) (h:impl_cloneDisk.f l2 l3=some (r1,r2)):
  Calls Tryz.prog 46 #[.agg #[.slice A0 l2.length c0,.slice A1 l3.length c1]] w fun e w'=>∃v0 v1:Value,e= .returned (.agg #[v0,v1])∧Kd.R Kd.string 9 w' w.heap.size (fun _=>True) v0 r1∧Kd.R k110 110 w' w.heap.size (fun _=>True) v1 r2∧Below w.heap.size w w':=by
 have hu32:=Tryz.underlying37
 have R0:=zz r0
 have C0:=zz h0
 clear r0 h0
 have R1:=zz r3
 have C1:=zz h2
 clear r3 h2
 have HB:=zz (z1a w.heap.size w)
 have H:((slices_Clone_string_string.f l2).bind fun t0=>((impl_Put.f l3).bind fun t1=>(some (t0,t1))))=some (r1,r2):=h
 clear h
 replace H:=z2a H
 obtain ⟨t0,A4,H⟩:=H
 replace H:((impl_Put.f l3).bind fun t1=>(some (t0,t1)))=some (r1,r2):=H
 have A2:=zz A4
 clear A4
 replace H:=z2a H
 obtain ⟨t1,A5,H⟩:=H
 replace H:(some (t0,t1))=some (r1,r2):=H
 have A3:=zz A5
 clear A5
 simp only [Option.some.injEq,Prod.mk.injEq] at H
 obtain ⟨rfl,rfl⟩:=H
 go_enter Tryz.func46,Tryz.ntmps46
 try go_wp2_with (first|((with_reducible refine zd (N:=1) rfl ?_);refine zx rfl (N:=1) rfl (cs:= #[.slice A0 l2.length c0,.slice A1 l3.length c1]) (t:=37) zq27 ?_;intro g0 hg w4 hbox hb;have B0:=zz hbox;have G0:=zz (zq15:w.heap.size≤g0);replace HB:=zz (ze zq0 hb);clear hb hbox hg)|((with_reducible refine zd (N:=2) rfl ?_);refine zx rfl (N:=2) rfl (cs:= #[.slice none 0 0,.slice none 0 0]) (t:=37) zq27 ?_;intro g1 hg w5 hbox hb;have B2:=zz hbox;have G1:=zz (zq25 G0.1:w.heap.size≤g1);have N0:=zz (zq28 B0.1:g0≠g1);have N1:=zz (zq29 B0.1:g1≠g0);replace B0:=zz (zg (g:=g0) (o:= .cells #[.slice A0 l2.length c0,.slice A1 l3.length c1] 37 (0,0)) (zq1 B0.1) hb);replace HB:=zz (ze (zq4 G0.1) hb);clear hb hbox hg))
 have n0:=zz (zl B0.1)
 have n1:=zz (zl B2.1)
 have n2:=zz (zR HB.1)
 clear B0
 clear B2
 clear HB
 have B0:=n0
 have B2:=n1
 have HB:=n2
 clear n0 n1 n2
 refine zVb (n:=8) (S:=fun w'=>w'.cell? ⟨g0,0,none⟩=some (.slice A0 l2.length c0)∧w'.cell? ⟨g0,1,none⟩=some (.slice A1 l3.length c1)) (ds:=[]) #[false,false,false,false,false,false,false,false] zq13 rfl rfl ⟨(zj B0.1 0).trans rfl,(zj B0.1 1).trans rfl⟩ (fun hHeld=> ?_);refine zYa impl_cloneDisk.tab1 impl_cloneDisk.bits1 (fun HT_ HW_=> ?_)
 generalize w5.drew=w6 at B0 B2 HB hHeld ⊢
 refine zia (i:=0) (N:=some 3) (v:= ?_) (a':= ?_) #[true,false,false,false,false,false,false,false] rfl rfl (zQ HT_.1 zq13) (fun _ _ _ h=>h) (Or.inl ⟨zq22,zq12⟩) zq10 ?_
 refine zia (i:=3) (N:=some 6) (v:= ?_) (a':= ?_) #[true,false,false,true,false,false,false,false] rfl rfl (zQ HT_.1 zq13) (fun _ _ _ h=>h) (Or.inl ⟨zq22,zq12⟩) zq10 ?_
 refine take_ (i:=1) (N:=some 4) (v:= ?_) (a':= ?_) #[true,true,false,true,false,false,false,false] rfl rfl (zja HT_.1 HW_.1 zq13) (fun _ _ _ h=>h) (Or.inl ⟨zq22,zq85⟩) hHeld zq10 ?_
 refine take_ (i:=4) (N:=some 7) (v:= ?_) (a':= ?_) #[true,true,false,true,true,false,false,false] rfl rfl (zja HT_.1 HW_.1 zq13) (fun _ _ _ h=>h) (Or.inl ⟨zq22,zq85⟩) hHeld zq10 ?_
 refine one_ (i:=2) (N:=some 5) #[true,true,true,true,true,false,false,false] rfl rfl (zVa HT_.1 zq13) zq31 (fun K hK=> ?_)
 refine goes_ Tryz.func93 zq13 rfl #[.slice A0 l2.length c0] zq22 rfl rfl zq8 ?_
 with_reducible refine (slices_Clone_string_string.calls _ _ l2 t0 _ ?side1 ?side2 A2.1).mono ?_
 (case side1=>repeat (first|exact (Kd.C_below R0.1 HB.1)|(with_reducible refine Kd.C_alloc ?_ _)|(with_reducible refine Kd.C_drewN ?_ _)|(with_reducible refine Kd.C_drew ?_)))
 (case side2=>exact C0.1)
 rintro e w7 ⟨v211,rfl,ho0,hb⟩
 refine ⟨_,rfl,?_⟩
 have n0:=zz (Kd.R_lower ho0 (zD (zq5 G0.1 G1.1)))
 have n1:=zz (zg (g:=g0) (o:= .cells #[.slice A0 l2.length c0,.slice A1 l3.length c1] 37 (0,0)) (zq1 B0.1) hb)
 have n2:=zz (zg (g:=g1) (o:= .cells #[.slice none 0 0,.slice none 0 0] 37 (0,0)) (zq1 B2.1) hb)
 have n3:=zz (ze (zq5 G0.1 G1.1) hb)
 clear B0
 clear B2
 clear HB
 have O0:=n0
 have B0:=n1
 have B2:=n2
 have HB:=n3
 clear n0 n1 n2 n3
 (try clear hb)
 (try clear hb2)
 (try clear hk)
 (try clear hi)
 (try clear ho0)
 refine hK.out _ _ ⟨(zj B0.1 0).trans rfl,(zj B0.1 1).trans rfl⟩ (fun hHeld=> ?_)
 clear hK K
 refine zUb (a':= ?_) ?_ ?_
 rotate_left
 ·show Act.put _ (some 5) _=_
  exact zq146
 refine one_ (i:=5) (N:=some 8) #[true,true,true,true,true,true,false,false] rfl rfl (zVa HT_.1 zq13) zq31 (fun K hK=> ?_)
 refine goes_ Tryz.func94 zq13 rfl #[.slice A1 l3.length c1] zq22 rfl rfl zq8 ?_
 with_reducible refine (impl_Put.calls _ _ l3 t1 _ ?side1 ?side2 A3.1).mono ?_
 (case side1=>repeat (first|exact (Kd.C_below R1.1 HB.1)|(with_reducible refine Kd.C_alloc ?_ _)|(with_reducible refine Kd.C_drewN ?_ _)|(with_reducible refine Kd.C_drew ?_)))
 (case side2=>exact C1.1)
 rintro e w8 ⟨v214,rfl,ho0,hb⟩
 refine ⟨_,rfl,?_⟩
 have n0:=zz (Kd.R_below (zq17 O0.1) hb)
 have n1:=zz (Kd.R_lower ho0 (zD (zq5 G0.1 G1.1)))
 have n2:=zz (zg (g:=g0) (o:= .cells #[.slice A0 l2.length c0,.slice A1 l3.length c1] 37 (0,0)) (zq1 B0.1) hb)
 have n3:=zz (zg (g:=g1) (o:= .cells #[.slice none 0 0,.slice none 0 0] 37 (0,0)) (zq1 B2.1) hb)
 have n4:=zz (ze (zq5 G0.1 G1.1) hb)
 clear O0
 clear B0
 clear B2
 clear HB
 have O0:=n0
 have O1:=n1
 have B0:=n2
 have B2:=n3
 have HB:=n4
 clear n0 n1 n2 n3 n4
 (try clear hb)
 (try clear hb2)
 (try clear hk)
 (try clear hi)
 (try clear ho0)
 obtain ⟨Ao9,co9,eo9⟩:=Kd.R_slice O1.1
 (first|subst eo9|(injection eo9 with f1_ f2_ f3_;have f4_:=f1_.symm;have f5_:=f3_.symm;clear f1_ f2_ f3_;subst f4_;subst f5_))
 obtain ⟨A6,c11,e0⟩:=Kd.R_slice O0.1
 (first|subst e0|(injection e0 with f1_ f2_ f3_;have f4_:=f1_.symm;have f5_:=f3_.symm;clear f1_ f2_ f3_;subst f4_;subst f5_))
 refine hK.out _ _ ⟨(zj B0.1 0).trans rfl,(zj B0.1 1).trans rfl⟩ (fun hHeld=> ?_)
 clear hK K
 refine zUb (a':= ?_) ?_ ?_
 rotate_left
 ·show Act.put _ (some 8) _=_
  exact zq146
 refine zia (i:=6) (N:=some 9) (v:= ?_) (a':= ?_) #[true,true,true,true,true,true,true,false] rfl rfl (zQ HT_.1 zq13) (fun _ _ _ h=>h) (Or.inl ⟨zq22,zq12⟩) zq10 ?_
 refine one_ (i:=7) (N:=none) #[true,true,true,true,true,true,true,true] rfl rfl (zVa HT_.1 zq13) zq31 (fun K hK=> ?_)
 have hs11:w8.cell? ⟨g1,0,none⟩=some (.slice none 0 0):=(zj B2.1 0).trans rfl
 have hfs11:=zu B2.1 0
 have hns11_0:=N0.1
 have hms11_0:=N1.1
 have hs12:w8.cell? ⟨g1,1,none⟩=some (.slice none 0 0):=(zj B2.1 1).trans rfl
 have hfs12:=zu B2.1 1
 have hns12_0:=N0.1
 have hms12_0:=N1.1
 refine skip_ (w1:= ?_) zq22 rfl ?_ ?_
 rotate_left
 ·go_simp
  rfl
 refine hK.out _ _ ⟨((zQb (p:=⟨g1,_,none⟩) N0.1 _).trans (((zQb (p:=⟨g1,_,none⟩) N0.1 _).trans (hHeld.1)))),((zQb (p:=⟨g1,_,none⟩) N0.1 _).trans (((zQb (p:=⟨g1,_,none⟩) N0.1 _).trans (hHeld.2))))⟩ (fun hHeld=> ?_)
 clear hK K
 refine done_ (done_of HT_.1 zq13) ?_
 try go_wp2
 refine bodyPost_ret (results_cell_row rfl _ _ g1 37 #[.slice A6 t0.length c11,.slice Ao9 t1.length co9] (0,0) _ rfl (by (with_reducible repeat (first|refine zk ?_ _|refine zl ?_|refine zh ?_ _));refine zW (cs:= #[.slice A6 t0.length c11,.slice none 0 0]) ?_ 1 _ rfl;(with_reducible repeat (first|refine zk ?_ _|refine zl ?_|refine zh ?_ _));refine zW (cs:= #[.slice none 0 0,.slice none 0 0]) ?_ 0 _ rfl;(with_reducible repeat (first|refine zk ?_ _|refine zl ?_|refine zh ?_ _));exact B2.1) Tryz.underlying37 rfl zq13) rfl ?_
 exact ⟨_,_,zq16,zq68 O0.1 B2.1,zq68 O1.1 B2.1,zq5 G0.1 G1.1⟩
def laws_eqStringS.l0:Nat→List ByteArray→List ByteArray→Int→Option (Bool)
 |0,_,_,_=>none
 |k+1,x0,x1,x5=>if x5<(x0.length:Int) then (if 0≤x5 then (if x5<(x1.length:Int) then (if (zcc ByteArray.empty x0 x5).toList=(zcc ByteArray.empty x1 x5).toList then (laws_eqStringS.l0 k x0 x1 (wrap64 (x5+1))) else (none)) else (none)) else (none)) else (some true)
def laws_eqStringS.f (k:Nat) (l0:List ByteArray) (l1:List ByteArray):Option (Bool):=if (l0.length:Int)=(l1.length:Int) then (laws_eqStringS.l0 k l0 l1 0) else (none)
theorem laws_eqStringS.mono_l:∀k,(∀y0 y1 y2,LeO (laws_eqStringS.l0 k y0 y1 y2) (laws_eqStringS.l0 (k+1) y0 y1 y2))
 |0=>fun _ _ _ r h=>by simp [laws_eqStringS.l0] at h
 |k+1=>by
  have ih0:=laws_eqStringS.mono_l k
  ·intro y0 y1 y2
   unfold laws_eqStringS.l0
   exact zq145
theorem laws_eqStringS.mono:∀a0 a1 k,LeO (laws_eqStringS.f k a0 a1) (laws_eqStringS.f (k+1) a0 a1):=by
 intro a0 a1 k
 have ih0:=laws_eqStringS.mono_l k
 unfold laws_eqStringS.f
 exact zq144
theorem laws_eqStringS.calls (k:Nat) (A0:Option Addr) (c0:Nat) (l0:List ByteArray) (A1:Option Addr) (c1:Nat) (l1:List ByteArray) (r:Bool) (w:World) (hr0:Kd.C Kd.string w A0 l0.length l0) (hc0:l0.length≤c0) (hr1:Kd.C Kd.string w A1 l1.length l1) (hc1:l1.length≤c1) (h:laws_eqStringS.f k l0 l1=some r):
  Calls Tryz.prog 48 #[.slice A0 l0.length c0,.slice A1 l1.length c1] w fun e w'=>e= .returned (.bool r)∧Drawn0 w w':=by
 have HR0:=zz hr0
 clear hr0 hc0
 have HR1:=zz hr1
 clear hr1 hc1
 have H:(if (l0.length:Int)=(l1.length:Int) then (laws_eqStringS.l0 k l0 l1 0) else (none))=some r:=h
 clear h
 by_cases c3:(l0.length:Int)=(l1.length:Int)
 ·rw [if_pos c3] at H
  have c3b0:((l0.length:Int)==(l1.length:Int))=true:=beq_iff_eq.mpr c3
  have c3b1:((l0.length:Int) !=(l1.length:Int))=false:=bne_eq_false_iff_eq.mpr c3
  have c3b2:(l0.length==l1.length)=true:=zq120
  clear c3
  have H':=zz H
  clear H
  go_enter Tryz.func48,Tryz.ntmps48
  go_wp2
  repeat (go_quiet (fail);try go_wp2)
  go_loopg [5] k (fun kq v5 w'=>∃(x0:Int),v5= .int .i64 x0∧Z0 (laws_eqStringS.l0 kq l0 l1 x0=some r)∧Z0 (kq≤k)∧Drawn0 w w')
  case atStart=>exact ⟨(0),zq18,H',⟨z3a _⟩,zq33⟩
  case round=>
   clear H'
   try clear c1
   try clear c3
   try clear c3b0
   try clear c3b1
   try clear c3b2
   obtain ⟨x0,rfl,HA,HK1,⟨m1,rfl⟩⟩:=hrel
   cases gk with
   |zero=>exact absurd HA.1 (by simp [laws_eqStringS.l0])
   |succ k1=>
    have H:=HA.1
    clear HA
    simp only [laws_eqStringS.l0] at H
    by_cases c4:x0<(l0.length:Int)
    ·rw [if_pos c4] at H
     have c4b0:=z6 c4
     clear c4
     by_cases c5:0≤x0
     ·rw [if_pos c5] at H
      have c5b0:=z6 c5
      clear c5
      by_cases c6:x0<(l1.length:Int)
      ·rw [if_pos c6] at H
       have c6b0:=z6 c6
       clear c6
       by_cases c7:(zcc ByteArray.empty l0 x0).toList=(zcc ByteArray.empty l1 x0).toList
       ·rw [if_pos c7] at H
        have c7b0:((zcc ByteArray.empty l0 x0).toList==(zcc ByteArray.empty l1 x0).toList)=true:=beq_iff_eq.mpr c7
        have c7b1:((zcc ByteArray.empty l0 x0).toList !=(zcc ByteArray.empty l1 x0).toList)=false:=bne_eq_false_iff_eq.mpr c7
        clear c7
        have H':=zz H
        clear H
        have p0:0≤(x0:Int):=z8 zq21
        have q0:x0<(l0.length:Int):=z8 zq21
        obtain ⟨ad262,e0,hx262_0⟩:=Kd.at_string HR0.1 x0 p0 q0
        cases e0
        replace p0:=eq_true p0
        replace q0:=eq_true q0
        have p1:0≤(x0:Int):=z8 zq21
        have q1:x0<(l1.length:Int):=z8 zq21
        obtain ⟨ad263,e1,hx263_0⟩:=Kd.at_string HR1.1 x0 p1 q1
        exact zq189
       ·exact zq176
      ·exact zq201
     ·exact zq155
    ·exact zq198
 ·exact zq166
def laws_eqPut.f (a0_0:Int) (a0_1:ByteArray) (a1_0:Int) (a1_1:ByteArray):Option (Bool):=if a0_0=a1_0 then (if a0_1.toList=a1_1.toList then (some true) else (none)) else (none)
theorem laws_eqPut.calls (a0:Int) (a1:ByteArray) (a2:Int) (a3:ByteArray) (r:Bool) (w:World) (h:laws_eqPut.f a0 a1 a2 a3=some r):
  Calls Tryz.prog 97 #[.agg #[.int .i64 a0,.string a1],.agg #[.int .i64 a2,.string a3]] w fun e w'=>e= .returned (.bool r)∧Below w.heap.size w w':=by
 have hu135:=Tryz.underlying110
 have HB:=zz (z1a w.heap.size w)
 have H:(if a0=a2 then (if a1.toList=a3.toList then (some true) else (none)) else (none))=some r:=h
 clear h
 by_cases c3:a0=a2
 ·rw [if_pos c3] at H
  have c3b0:(a0==a2)=true:=beq_iff_eq.mpr c3
  have c3b1:(a0 !=a2)=false:=bne_eq_false_iff_eq.mpr c3
  clear c3
  by_cases c4:a1.toList=a3.toList
  ·rw [if_pos c4] at H
   have c4b0:(a1.toList==a3.toList)=true:=beq_iff_eq.mpr c4
   have c4b1:(a1.toList !=a3.toList)=false:=bne_eq_false_iff_eq.mpr c4
   clear c4
   obtain rfl:=z6a H
   go_enter Tryz.func97,Tryz.ntmps97
   go_wp2_with (first|((with_reducible refine zd (N:=2) rfl ?_);refine zx rfl (N:=2) rfl (cs:= #[.int .i64 a0,.string a1]) (t:=110) zq27 ?_;intro g0 hg w5 hbox hb;have B0:=zz hbox;have G0:=zz (zq15:w.heap.size≤g0);replace HB:=zz (ze zq0 hb);clear hb hbox hg)|((with_reducible refine zd (N:=3) rfl ?_);refine zx rfl (N:=3) rfl (cs:= #[.int .i64 a2,.string a3]) (t:=110) zq27 ?_;intro g1 hg w6 hbox hb;have B2:=zz hbox;have G1:=zz (zq25 G0.1:w.heap.size≤g1);have N0:=zz (by rw [hg];exact z8a (zP (g:=g0) (o:= .cells #[.int .i64 a0,.string a1] 110 (0,0)) (zq1 B0.1)):g0≠g1);have N1:=zz (by rw [hg];exact z7a (zP (g:=g0) (o:= .cells #[.int .i64 a0,.string a1] 110 (0,0)) (zq1 B0.1)):g1≠g0);replace B0:=zz (zg (g:=g0) (o:= .cells #[.int .i64 a0,.string a1] 110 (0,0)) (zq1 B0.1) hb);replace HB:=zz (ze (zq4 G0.1) hb);clear hb hbox hg;have hnb7:=N0.1;have hnc7:=N1.1;obtain ⟨_,_,_,_⟩:=zV B0.1;obtain ⟨_,_,_,_⟩:=zV B2.1))
   exact zq214
  ·exact zq161
 ·exact zq166
def laws_eqPutS.l0:Nat→List (S110)→List (S110)→Int→Option (Bool)
 |0,_,_,_=>none
 |k+1,x0,x1,x5=>if x5<(x0.length:Int) then (if 0≤x5 then (if x5<(x1.length:Int) then ((laws_eqPut.f ((zv x0 x5).f0) ((zv x0 x5).f1) ((zv x1 x5).f0) ((zv x1 x5).f1)).bind fun t268=>(if t268=true then (laws_eqPutS.l0 k x0 x1 (wrap64 (x5+1))) else (none))) else (none)) else (none)) else (some true)
def laws_eqPutS.f (k:Nat) (l0:List (S110)) (l1:List (S110)):Option (Bool):=if (l0.length:Int)=(l1.length:Int) then (laws_eqPutS.l0 k l0 l1 0) else (none)
theorem laws_eqPutS.mono_l:∀k,(∀y0 y1 y2,LeO (laws_eqPutS.l0 k y0 y1 y2) (laws_eqPutS.l0 (k+1) y0 y1 y2))
 |0=>fun _ _ _ r h=>by simp [laws_eqPutS.l0] at h
 |k+1=>by
  have ih0:=laws_eqPutS.mono_l k
  ·intro y0 y1 y2
   unfold laws_eqPutS.l0
   exact zq145
theorem laws_eqPutS.mono:∀a0 a1 k,LeO (laws_eqPutS.f k a0 a1) (laws_eqPutS.f (k+1) a0 a1):=by
 intro a0 a1 k
 have ih0:=laws_eqPutS.mono_l k
 unfold laws_eqPutS.f
 exact zq144
def laws_eqPutS.T6:Bool×List (List Nat×List Nat):=(true,[([],[]),([],[]),([0,1],[0,1]),([2],[2]),([],[]),([],[]),([4,5],[4,5]),([6],[6]),([3,7],[3,7]),([8],[8])])
def laws_eqPutS.B6:List Nat:=[0,0,3,7,0,0,48,112,255,511]
theorem laws_eqPutS.tab6:rtab .any (zFa Tryz.f49 6)=laws_eqPutS.T6:=zq13
theorem laws_eqPutS.bits6:zQa laws_eqPutS.T6.2 laws_eqPutS.B6=true:=zq13
theorem laws_eqPutS.calls (k:Nat) (A0:Option Addr) (c0:Nat) (l0:List (S110)) (A1:Option Addr) (c1:Nat) (l1:List (S110)) (r:Bool) (w:World) (hr0:Kd.C k110 w A0 l0.length l0) (hc0:l0.length≤c0) (hr1:Kd.C k110 w A1 l1.length l1) (hc1:l1.length≤c1) (h:laws_eqPutS.f k l0 l1=some r):
  Calls Tryz.prog 49 #[.slice A0 l0.length c0,.slice A1 l1.length c1] w fun e w'=>e= .returned (.bool r)∧Below w.heap.size w w':=by
 have hu135:=Tryz.underlying110
 have HR0:=zz hr0
 clear hr0 hc0
 have HR1:=zz hr1
 clear hr1 hc1
 have HB:=zz (z1a w.heap.size w)
 have H:(if (l0.length:Int)=(l1.length:Int) then (laws_eqPutS.l0 k l0 l1 0) else (none))=some r:=h
 clear h
 by_cases c3:(l0.length:Int)=(l1.length:Int)
 ·rw [if_pos c3] at H
  have c3b0:((l0.length:Int)==(l1.length:Int))=true:=beq_iff_eq.mpr c3
  have c3b1:((l0.length:Int) !=(l1.length:Int))=false:=bne_eq_false_iff_eq.mpr c3
  have c3b2:(l0.length==l1.length)=true:=zq120
  clear c3
  have H':=zz H
  clear H
  go_enter Tryz.func49,Tryz.ntmps49
  go_wp2
  go_loopg [5] k (fun kq v5 w'=>∃(x0:Int),v5= .int .i64 x0∧Z0 (laws_eqPutS.l0 kq l0 l1 x0=some r)∧Z0 (kq≤k)∧Z0 (Below w.heap.size w w'))
  case atStart=>exact ⟨(0),zq18,H',⟨z3a _⟩,⟨zq0⟩⟩
  case round=>
   clear H'
   try clear c1
   try clear c3
   try clear c3b0
   try clear c3b1
   try clear c3b2
   obtain ⟨x0,rfl,HA,HK1,HB⟩:=hrel
   cases gk with
   |zero=>exact absurd HA.1 (by simp [laws_eqPutS.l0])
   |succ k1=>
    have H:=HA.1
    clear HA
    simp only [laws_eqPutS.l0] at H
    by_cases c4:x0<(l0.length:Int)
    ·rw [if_pos c4] at H
     have c4b0:=z6 c4
     clear c4
     by_cases c5:0≤x0
     ·rw [if_pos c5] at H
      have c5b0:=z6 c5
      clear c5
      by_cases c6:x0<(l1.length:Int)
      ·rw [if_pos c6] at H
       have c6b0:=z6 c6
       clear c6
       replace H:=z2a H
       obtain ⟨t0,A2,H⟩:=H
       replace H:(if t0=true then (laws_eqPutS.l0 k1 l0 l1 (wrap64 (x0+1))) else (none))=some r:=H
       have A7:=zz A2
       clear A2
       by_cases c8:t0=true
       ·subst c8
        rw [if_pos rfl] at H
        have H':=zz H
        clear H
        try go_wp2
        have n0:=zz (zR HB.1)
        clear HB
        have HB:=n0
        clear n0
        have p0:0≤(x0:Int):=z8 zq21
        have q0:x0<(l0.length:Int):=z8 zq21
        obtain ⟨b0,e0,k0,k2⟩:=zIa HR0.1 x0 p0 q0
        have h0:=k2
        have h2:=k0
        cases e0
        replace k0:=(HB.1.cell (z0a w _ k0)).trans k0
        replace k2:=(HB.1.cell (z0a w _ k2)).trans k2
        replace p0:=eq_true p0
        replace q0:=eq_true q0
        have p1:0≤(x0:Int):=z8 zq21
        have q1:x0<(l1.length:Int):=z8 zq21
        obtain ⟨b1,e1,k3,k4⟩:=zIa HR1.1 x0 p1 q1
        have h3:=k4
        have h4:=k3
        cases e1
        replace k3:=(HB.1.cell (z0a w _ k3)).trans k3
        replace k4:=(HB.1.cell (z0a w _ k4)).trans k4
        replace p1:=eq_true p1
        replace q1:=eq_true q1
        refine zVb (n:=10) (S:=fun w'=>w'.cell? (b0.add ((x0).toNat*2))=some (.int .i64 ((zv l0 x0).f0))∧w'.cell? ⟨(b0.add ((x0).toNat*2)).block,(b0.add ((x0).toNat*2)).off+1,none⟩=some (.string ((zv l0 x0).f1))∧w'.cell? (b1.add ((x0).toNat*2))=some (.int .i64 ((zv l1 x0).f0))∧w'.cell? ⟨(b1.add ((x0).toNat*2)).block,(b1.add ((x0).toNat*2)).off+1,none⟩=some (.string ((zv l1 x0).f1))) (ds:=[]) #[false,false,false,false,false,false,false,false,false,false] zq13 rfl rfl ⟨((HB.1.cell (z0a w _ h2)).trans h2),((HB.1.cell (z0a w _ h0)).trans h0),((HB.1.cell (z0a w _ h4)).trans h4),((HB.1.cell (z0a w _ h3)).trans h3)⟩ (fun hHeld=> ?_);refine zYa laws_eqPutS.tab6 laws_eqPutS.bits6 (fun HT_ HW_=> ?_)
        generalize wr.drew=w9 at HB k0 k2 k3 k4 hHeld ⊢
        refine zia (i:=0) (N:=some 17) (v:= ?_) (a':= ?_) #[true,false,false,false,false,false,false,false,false,false] rfl rfl (zQ HT_.1 zq13) (fun _ _ _ h=>h) (Or.inl ⟨zq22,zq12⟩) zq10 ?_
        refine zia (i:=1) (N:=some 18) (v:= ?_) (a':= ?_) #[true,true,false,false,false,false,false,false,false,false] rfl rfl (zQ HT_.1 zq13) (fun _ _ _ h=>h) (Or.inl ⟨zq22,zq12⟩) zq10 ?_
        refine zia (i:=2) (N:=some 19) (v:= ?_) (a':= ?_) #[true,true,true,false,false,false,false,false,false,false] rfl rfl (zQ HT_.1 zq13) (fun _ _ _ h=>h) (Or.inl ⟨zq22,zq12⟩) zq10 ?_
        refine zia (i:=4) (N:=some 21) (v:= ?_) (a':= ?_) #[true,true,true,false,true,false,false,false,false,false] rfl rfl (zQ HT_.1 zq13) (fun _ _ _ h=>h) (Or.inl ⟨zq22,zq12⟩) zq10 ?_
        refine zia (i:=5) (N:=some 22) (v:= ?_) (a':= ?_) #[true,true,true,false,true,true,false,false,false,false] rfl rfl (zQ HT_.1 zq13) (fun _ _ _ h=>h) (Or.inl ⟨zq22,zq12⟩) zq10 ?_
        refine zia (i:=6) (N:=some 23) (v:= ?_) (a':= ?_) #[true,true,true,false,true,true,true,false,false,false] rfl rfl (zQ HT_.1 zq13) (fun _ _ _ h=>h) (Or.inl ⟨zq22,zq12⟩) zq10 ?_
        refine take_ (i:=3) (N:=some 20) (v:= ?_) (a':= ?_) #[true,true,true,true,true,true,true,false,false,false] rfl rfl (zja HT_.1 HW_.1 zq13) (fun _ _ _ h=>h) (Or.inl ⟨zq22,zq49⟩) hHeld zq10 ?_
        refine take_ (i:=7) (N:=some 24) (v:= ?_) (a':= ?_) #[true,true,true,true,true,true,true,true,false,false] rfl rfl (zja HT_.1 HW_.1 zq13) (fun _ _ _ h=>h) (Or.inl ⟨zq22,zq49⟩) hHeld zq10 ?_
        refine one_ (i:=8) (N:=some 25) #[true,true,true,true,true,true,true,true,true,false] rfl rfl (zVa HT_.1 zq13) zq31 (fun K hK=> ?_)
        refine goes_ Tryz.func97 zq13 rfl #[.agg #[.int .i64 ((zv l0 x0).f0),.string ((zv l0 x0).f1)],.agg #[.int .i64 ((zv l1 x0).f0),.string ((zv l1 x0).f1)]] zq22 rfl rfl zq8 ?_
        with_reducible refine (laws_eqPut.calls ((zv l0 x0).f0) ((zv l0 x0).f1) ((zv l1 x0).f0) ((zv l1 x0).f1) true _ A7.1).mono ?_
        rintro e w10 ⟨rfl,hb⟩
        exact zq182
       ·replace c8:=Bool.eq_false_iff.mpr c8
        subst c8
        exact zq163
      ·exact zq201
     ·exact zq155
    ·exact zq152
 ·exact zq166
end Go.Proofs.YtonhdiemjgdcnaaGreat.PFnExactGivePage
