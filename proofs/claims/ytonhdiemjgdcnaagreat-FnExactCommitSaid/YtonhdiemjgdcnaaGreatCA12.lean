import Derived.Test.YtonhdiemjgdcnaaGreatCA11
import Derived.ProofKit
import Derived.OpenShut
import Derived.Deep.Slices
import Derived.ShutString
import Derived.ChangeOld
set_option maxHeartbeats 64000000
set_option maxRecDepth 100000
set_option linter.unusedVariables false
set_option linter.unusedSimpArgs false
namespace Go.Proofs.YtonhdiemjgdcnaaGreat.PFnExactGivePage
open Go.RowKit Go.Proofs.YtonhdiemjgdcnaaGreatW.PrintWords Go.Proofs.YtonhdiemjgdcnaaGreatW.PrintLast Go.Proofs.YtonhdiemjgdcnaaGreatW.PrintMore
attribute [local go_sem] zka zma zta zsa zaa zba zja zla
theorem Env.made22 {w0 W W':World} {top:Nat} {fs:List Fct} (E:Env w0 W top fs) {α β:Type} {d1:Kd α} {d2:Kd β} {x1:α} {x2:β} {c1 c2:List Value} {a1 b1 a2 b2:Nat} (ho:(W.heap.size≤a1∧a1≤b1∧b1≤W'.heap.size)∧(W.heap.size≤a2∧a2≤b2∧b2≤W'.heap.size)∧(b1≤a2∨b2≤a1)) (M1:d1.M W' W.heap.size (fun k=>True∧Iv a1 b1 k) x1 c1) (M2:d2.M W' W.heap.size (fun k=>True∧Iv a2 b2 k) x2 c2) (hb:Below W.heap.size W W'):∃m,(((top≤a1∧a1≤b1∧b1≤m)∧(top≤a2∧a2≤b2∧b2≤m)∧(b1≤a2∨b2≤a1))∧top≤m)∧Env w0 W' m (Fct.made d1 w0.heap.size a1 b1 (fun _=>True) x1 c1::Fct.made d2 w0.heap.size a2 b2 (fun _=>True) x2 c2::fs):=by
 obtain ⟨h1,h2,h3⟩:=ho
 exact ⟨W'.heap.size,⟨⟨⟨Nat.le_trans E.le h1.1,h1.2⟩,⟨Nat.le_trans E.le h2.1,h2.2⟩,h3⟩,Nat.le_trans E.le hb.size⟩,zh E.below hb,Nat.le_refl _,Nat.le_trans E.below.size hb.size,⟨h1.2.2,d1.M_lower E.below.size M1⟩,⟨h2.2.2,d2.M_lower E.below.size M2⟩,All.step (fun k h=>hb.block k (Nat.lt_of_lt_of_le h E.le)) (Nat.le_trans E.le hb.size) E.all⟩
@[reducible] def EqDisk (k:Nat) (z:(List ByteArray×List S110)):Prop:=eqDisk_c_f k z z=some true
@[reducible] def HeldDisk (k:Nat) (z:(List ByteArray×List S110)) (a r:Int):Prop:=heldDisk_c_f k z a=some r
def MarkDisk (k:Nat) (z:(List ByteArray×List S110)) (a:Int) (z':(List ByteArray×List S110)) (r:Int):Prop:=laws_markDisk.f k z.1 z.2 a=some (r,z'.1,z'.2)
theorem markDisk_c (k:Nat) (z:(List ByteArray×List S110)) (a:Int) (z':(List ByteArray×List S110)) (r:Int) (ok:Nat→Prop) {cs:List Value} (w0 w:World) (hB:Below w0.heap.size w0 w) (hk:∀k,ok k→k<w.heap.size) (h:kDisk.M w w0.heap.size ok z cs) (hf:MarkDisk k z a z' r):
  Calls Tryz.prog 14 #[.agg cs.toArray,.int .i64 a] w fun e w'=>e= .returned (.int .i64 r)∧kDisk.M w' w0.heap.size ok z' cs∧Below w0.heap.size w0 w'∧Kept w w' ok:=by
 obtain ⟨l0,l1⟩:=z
 obtain ⟨q0,q1⟩:=z'
 exact markDisk_o k l0 l1 a r q0 q1 ok w0 w hB h hf
def ImplCommit (k:Nat) (d:(S40×(List ByteArray×List S110×Int×List Int×List Int×List Int)×Int)) (z:(List ByteArray×List S110)) (x:S40) (b:Bool):Prop:=impl_cloneMeta.f k d.1.f0 d.1.f1 d.1.f2 d.1.f3=some (d.1.f0,d.1.f1,d.1.f2,d.1.f3)∧(d.2.1.1.length≤2000000∧d.2.1.2.1.length≤2000000)∧((zyb d=true∧(∃e0 e1,impl_SyncDisk.f k d.2.1.1 d.2.1.2.1=some (e0,e1)∧z=(e0,e1))∧x=d.1∧b=true)∨(zyb d=false∧(∃m,ImplNM k d m false)∧z=(d.2.1.1,d.2.1.2.1)∧x=d.1∧b=false)∨
 (zyb d=false∧∃m t ok e0 e1 y r,ImplNM k d m true∧(∃(vt:Int→ByteArray) (sl:ByteArray→ByteArray),TxF k vt sl∧MTxt vt sl m t ok)∧impl_SyncDisk.f k d.2.1.1 d.2.1.2.1=some (e0,e1)∧(0≤m.f0∧m.f0≤100000)∧((r=false∧(e0.length≤2000000∧e1.length≤2000000)∧impl_DiskOk.f e0 e1=some false∧z=(d.2.1.1,d.2.1.2.1)∧x=d.1∧b=false)∨(r=true∧impl_WritePage.f e0 e1 (m.f0%2) t=some ((y:(List ByteArray×List S110)).1,y.2,true)∧(∃g0 g1,impl_SyncDisk.f k y.1 y.2=some (g0,g1)∧z=(g0,g1))∧x=m∧b=true))))
theorem implCommit_c (k:Nat) (d:(S40×(List ByteArray×List S110×Int×List Int×List Int×List Int)×Int)) (z:(List ByteArray×List S110)) (x:S40) (b:Bool) {cs:List Value} (w:World) (h:kTxn.K w d cs) (hf:ImplCommit k d z x b):
  Calls Tryz.prog 9 #[.agg cs.toArray] w fun e w'=>∃ds es:List Value,e= .returned (.tuple #[.agg ds.toArray,.agg es.toArray,.bool b])∧Two w w' kDisk z ds k40 x es∧Below w.heap.size w w':=by
 obtain ⟨y,⟨l0,l1,l2,l3,l4,l5⟩,n⟩:=d
 obtain ⟨f1,fl,⟨fi,⟨e0,e1,fs,rfl⟩,rfl,rfl⟩|⟨fi,⟨m,fn⟩,rfl,rfl,rfl⟩|⟨fi,m,t,ok,e0,e1,u,r,fn,ft,fs,fx,⟨rfl,fe,fd,rfl,rfl,rfl⟩|⟨rfl,fw,⟨g0,g1,fs2,rfl⟩,rfl,rfl⟩⟩⟩:=hf
 ·exact commitI_A k _ l0 l1 l2 l3 l4 l5 n e0 e1 w h fi f1 fs
 ·exact commitI_B k _ l0 l1 l2 l3 l4 l5 n m w h fi f1 fl fn
 ·exact commitI_C k _ l0 l1 l2 l3 l4 l5 n m t ok e0 e1 w h fi f1 fl fn ft fs fx fe fd
 ·exact commitI_D k y l0 l1 l2 l3 l4 l5 n _ t ok e0 e1 u g0 g1 w h fi fn ft fs fx fw fs2
def SpecCommit (k:Nat) (d:(S40×(List ByteArray×List S110×Int×List Int×List Int×List Int)×Int)) (z:(List ByteArray×List S110)) (x:S40) (b:Bool):Prop:=SmallM d.1∧(d.2.1.1.length≤2000000∧d.2.1.2.1.length≤2000000)∧((zyb d=true∧(∃e0 e1,spec_SyncDisk.f k d.2.1.1 d.2.1.2.1=some (e0,e1)∧z=(e0,e1))∧x=d.1∧b=true)∨(zyb d=false∧(∃m,SpecNM k d m false)∧z=(d.2.1.1,d.2.1.2.1)∧x=d.1∧b=false)∨
 (zyb d=false∧∃m t ok e0 e1 y r,SpecNM k d m true∧(∃(vt:Int→ByteArray) (sl:ByteArray→ByteArray),TxF k vt sl∧MTxt vt sl m t ok)∧spec_SyncDisk.f k d.2.1.1 d.2.1.2.1=some (e0,e1)∧(0≤m.f0∧m.f0≤100000)∧((r=false∧(e0.length≤2000000∧e1.length≤2000000)∧spec_DiskOk.f k e0 e1=some false∧z=(d.2.1.1,d.2.1.2.1)∧x=d.1∧b=false)∨(r=true∧spec_WritePage.f k e0 e1 (m.f0%2) t=some ((y:(List ByteArray×List S110)).1,y.2,true)∧(∃g0 g1,spec_SyncDisk.f k y.1 y.2=some (g0,g1)∧z=(g0,g1))∧x=m∧b=true))))
theorem specCommit_c (k:Nat) (d:(S40×(List ByteArray×List S110×Int×List Int×List Int×List Int)×Int)) (z:(List ByteArray×List S110)) (x:S40) (b:Bool) {cs:List Value} (w:World) (h:kTxn.K w d cs) (hf:SpecCommit k d z x b):
  Calls Tryz.prog 7 #[.agg cs.toArray] w fun e w'=>∃ds es:List Value,e= .returned (.tuple #[.agg ds.toArray,.agg es.toArray,.bool b])∧Two w w' kDisk z ds k40 x es∧Below w.heap.size w w':=by
 obtain ⟨y,⟨l0,l1,l2,l3,l4,l5⟩,n⟩:=d
 obtain ⟨f1,fl,⟨fi,⟨e0,e1,fs,rfl⟩,rfl,rfl⟩|⟨fi,⟨m,fn⟩,rfl,rfl,rfl⟩|⟨fi,m,t,ok,e0,e1,u,r,fn,ft,fs,fx,⟨rfl,fe,fd,rfl,rfl,rfl⟩|⟨rfl,fw,⟨g0,g1,fs2,rfl⟩,rfl,rfl⟩⟩⟩:=hf
 ·exact commitS_A k _ l0 l1 l2 l3 l4 l5 n e0 e1 w h fi f1 fs
 ·exact commitS_B k _ l0 l1 l2 l3 l4 l5 n m w h fi f1 fl fn
 ·exact commitS_C k _ l0 l1 l2 l3 l4 l5 n m t ok e0 e1 w h fi f1 fl fn ft fs fx fe fd
 ·exact commitS_D k y l0 l1 l2 l3 l4 l5 n _ t ok e0 e1 u g0 g1 w h fi fn ft fs fx fw fs2
theorem cm_small0 (k:Nat) (a0:(S24×(List ByteArray×List S156×Int×List Int×List Int×List Int)×Int)) (r0:Int) {cs0:List Value} (w:World) (h0:kTxnL.K w a0 cs0) (hs0:szTxn_c_f k a0 1048576=some r0) (hr0:r0<0):
  Calls Tryz.prog 3 #[.agg cs0.toArray] w fun e w'=>e= .returned (.bool true)∧Below w.heap.size w w':=by
 have KA0:=zz h0;have LA0:=zz (show cs0.length=11 from Kd.K_len _ h0);clear h0
 have HS0:=zz hs0;clear hs0
 replace hr0:decide (r0<0)=true:=decide_eq_true hr0
 have O:=zz (Nat.le_refl w.heap.size)
 have E:=zz (Env.start w)
 go_enter Tryz.func3,Tryz.ntmps3
 go_wp2_with (first|((with_reducible refine zn (N:=17) rfl ?_);replace O:=zz (And.intro E.out.le O.out);replace E:=zz (E.out.alloc cs0 33 (g:=w.heap.size) rfl);refine zA rfl 33 _ rfl w.heap.size 0 [] cs0 [] _ rfl (E.out.box 0 rfl) zq6 (rfl) Tryz.underlying33 rfl zq56 ?_))
 ((with_reducible refine (szTxn_c k a0 1048576 r0 _ (E.out.K KA0.out) HS0.out).mono ?_);rintro e w1_ ⟨rfl,hb⟩)
 replace E:=zz (E.out.call hb);clear hb
 go_wp2_with fail
 go_ret
 exact ⟨rfl,E.out.below⟩
def cm_great_T10:Bool×List (List Nat×List Nat):=(true,[([],[]),([],[]),([1],[1]),([0,2,2],[0,2]),([3],[3])])
def cm_great_B10:List Nat:=[0,0,2,7,15]
theorem cm_great_ok10_0:regT (zQa Tryz.f3 10) cm_great_T10 cm_great_B10 [] (.t 0 (.t 1 (.e 2 (.e 3 (.p 4 .d)))))=true:=by kernel_rfl
theorem cm_great (k:Nat) (a0:(S24×(List ByteArray×List S156×Int×List Int×List Int×List Int)×Int)) (r0:Int) (d0 d0_:(S40×(List ByteArray×List S110×Int×List Int×List Int×List Int)×Int)) (z0 z0_:(List ByteArray×List S110)) (z1 z1_:S40) (z2:Bool) (mk0:Int) (mg0:Int) (mg1:Int) {cs0:List Value} (w:World) (h0:kTxnL.K w a0 cs0) (hs0:szTxn_c_f k a0 1048576=some r0) (ht0:ToTxn k a0 d0) (hsp:SpecCommit k d0 z0 z1 z2) (him:ImplCommit k d0 z0 z1 z2) (heq0:EqDisk k z0) (heq1:EqMeta k z1) (hex0:EqTxn k d0) (hmk0:MarkTxn k d0 1 d0_ mk0) (hmg0:MarkDisk k z0 1 z0_ mg0) (hhd0:HeldDisk k z0_ 1 mg0) (hmg1:MarkMeta k z1 mg0 z1_ mg1) (hhd1:HeldMeta k z1_ mg0 mg1) (hr0:¬r0<0) (hm:¬mk0<0) (hg0:¬mg0<0) (hg1:¬mg1<0):
  Calls Tryz.prog 3 #[.agg cs0.toArray] w fun e w'=>e= .returned (.bool true)∧Below w.heap.size w w':=by
 have KA0:=zz h0;have LA0:=zz (show cs0.length=11 from Kd.K_len _ h0);clear h0
 have HS0:=zz hs0;clear hs0
 have HT0:=zz ht0;clear ht0
 have HSP:=zz hsp;clear hsp
 have HIM:=zz him;clear him
 have HEQ0:=zz heq0;clear heq0
 have HEQ1:=zz heq1;clear heq1
 have HEX0:=zz hex0;clear hex0
 have HMK0:=zz hmk0;clear hmk0
 have HMG0:=zz hmg0;clear hmg0
 have HHD0:=zz hhd0;clear hhd0
 have HMG1:=zz hmg1;clear hmg1
 have HHD1:=zz hhd1;clear hhd1
 replace hr0:decide (r0<0)=false:=decide_eq_false hr0
 replace hm:decide (mk0<0)=false:=decide_eq_false hm
 replace hg0:decide (mg0<0)=false:=decide_eq_false hg0
 replace hg1:decide (mg1<0)=false:=decide_eq_false hg1
 have O:=zz (Nat.le_refl w.heap.size)
 have E:=zz (Env.start w)
 go_enter Tryz.func3,Tryz.ntmps3
 go_wp2_with (first|((with_reducible refine zn (N:=17) rfl ?_);replace O:=zz (And.intro E.out.le O.out);replace E:=zz (E.out.alloc cs0 33 (g:=w.heap.size) rfl);refine zA rfl 33 _ rfl w.heap.size 0 [] cs0 [] _ rfl (E.out.box 0 rfl) zq6 (rfl) Tryz.underlying33 rfl zq56 ?_))
 ((with_reducible refine (szTxn_c k a0 1048576 r0 _ (E.out.K KA0.out) HS0.out).mono ?_);rintro e w1_ ⟨rfl,hb⟩)
 replace E:=zz (E.out.call hb);clear hb
 go_wp2_with (first|((with_reducible refine zn (N:=23) rfl ?_);refine zA rfl 33 _ rfl w.heap.size 0 [] cs0 [] _ rfl (E.out.box 0 rfl) zq6 (rfl) Tryz.underlying33 rfl zq56 ?_))
 ((with_reducible refine (toTxn_c k a0 d0 _ (E.out.K KA0.out) HT0.out).mono ?_);rintro e w2_ ⟨d3_,rfl,Md3_,hb⟩)
 have q:=E.out.made4 O.out 11 rfl Md3_ hb;clear O E Md3_ hb;obtain ⟨n4_,m5_,Ld3_,Od3_,O,E⟩:=q
 go_wp2_with fail
 ((with_reducible refine (specCommit_c k d0 z0 z1 z2 _ (E.out.mk_ 0 rfl) HSP.out).mono ?_);rintro e w6_ ⟨d7_,d8_,rfl,⟨ga,gb,gc,gd,hO,Md7_,Md8_⟩,hb⟩)
 have Ld7_:=zz (show d7_.length=2 from Kd.K_len _ (Kd.K_of_M _ Md7_));have Od7_:=zz (zub (Kd.K_of_M _ Md7_))
 have Ld8_:=zz (show d8_.length=4 from Kd.K_len _ (Kd.K_of_M _ Md8_));have Od8_:=zz (zub (Kd.K_of_M _ Md8_))
 obtain ⟨n9_,m10_,n11_,m12_,hn⟩:∃p q r s,p=ga∧q=gb∧r=gc∧s=gd:=⟨_,_,_,_,rfl,rfl,rfl,rfl⟩
 obtain ⟨rfl,rfl,rfl,rfl⟩:=hn
 obtain ⟨t13_,hT,hE⟩:=E.out.made22 hO Md7_ Md8_ hb;replace O:=zz (And.intro hT O.out);replace E:=zz hE;clear hT hE hO hb Md7_ Md8_
 go_wp2_with (first|((with_reducible refine zE (t:=37) (p:=4) rfl ?_);replace O:=zz (And.intro E.out.le O.out);replace E:=zz (E.out.alloc [.slice none 0 0,.slice none 0 0] 37 (g:=w6_.heap.size) rfl);replace E:=zz (E.out.alloc Z40 40 (g:=(w6_.heap.size+1)) zq16);refine zK rfl 37 _ _ rfl rfl w6_.heap.size 0 d7_ [] [.slice none 0 0,.slice none 0 0] [] rfl rfl (E.out.box 1 rfl) zq6 (rfl) (by rw [Ld7_.out];rfl) zq59 Od7_.out ?_;intro W14_ hp hn;replace E:=E.out.put2 1 hp hn zq8;clear hp hn)|((with_reducible refine zE (t:=40) (p:=5) rfl ?_);refine zK rfl 40 _ _ rfl rfl (w6_.heap.size+1) 0 d8_ [] Z40 [] rfl rfl (E.out.box 0 rfl) zq6 (rfl) (by rw [Ld8_.out];rfl) zq51 Od8_.out ?_;intro W15_ hp hn;replace E:=E.out.put2 0 hp hn zq8;clear hp hn)|((with_reducible refine zn (N:=29) rfl ?_);refine zA rfl 33 _ rfl w.heap.size 0 [] cs0 [] _ rfl (E.out.box 5 rfl) zq6 (rfl) Tryz.underlying33 rfl zq56 ?_))
 ((with_reducible refine (toTxn_c k a0 d0 _ (E.out.K KA0.out) HT0.out).mono ?_);rintro e w16_ ⟨d17_,rfl,Md17_,hb⟩)
 have q:=E.out.made4 O.out 11 rfl Md17_ hb;clear O E Md17_ hb;obtain ⟨n18_,m19_,Ld17_,Od17_,O,E⟩:=q
 go_wp2_with (first|((with_reducible refine zE (t:=46) (p:=7) rfl ?_);replace O:=zz (And.intro E.out.le O.out);replace E:=zz (E.out.alloc Z46 46 (g:=w16_.heap.size) rfl);refine zK rfl 46 _ _ rfl rfl w16_.heap.size 0 d17_ [] Z46 [] rfl rfl (E.out.box 0 rfl) zq6 (rfl) (by rw [Ld17_.out];rfl) zq49 Od17_.out ?_;intro W20_ hp hn;replace E:=E.out.put2 0 hp hn zq8;clear hp hn)|((with_reducible refine zn (N:=32) rfl ?_);refine zA rfl 46 _ rfl w16_.heap.size 0 [] d17_ [] _ rfl (E.out.box 0 rfl) zq6 (rfl) Tryz.underlying46 rfl zq49 ?_))
 ((with_reducible refine (implCommit_c k d0 z0 z1 z2 _ (E.out.mk_ 1 rfl) HIM.out).mono ?_);rintro e w21_ ⟨d22_,d23_,rfl,⟨ga,gb,gc,gd,hO,Md22_,Md23_⟩,hb⟩)
 have Ld22_:=zz (show d22_.length=2 from Kd.K_len _ (Kd.K_of_M _ Md22_));have Od22_:=zz (zub (Kd.K_of_M _ Md22_))
 have Ld23_:=zz (show d23_.length=4 from Kd.K_len _ (Kd.K_of_M _ Md23_));have Od23_:=zz (zub (Kd.K_of_M _ Md23_))
 obtain ⟨n24_,m25_,n26_,m27_,hn⟩:∃p q r s,p=ga∧q=gb∧r=gc∧s=gd:=⟨_,_,_,_,rfl,rfl,rfl,rfl⟩
 obtain ⟨rfl,rfl,rfl,rfl⟩:=hn
 obtain ⟨t28_,hT,hE⟩:=E.out.made22 hO Md22_ Md23_ hb;replace O:=zz (And.intro hT O.out);replace E:=zz hE;clear hT hE hO hb Md22_ Md23_
 go_wp2_with (first|((with_reducible refine zE (t:=37) (p:=8) rfl ?_);replace O:=zz (And.intro E.out.le O.out);replace E:=zz (E.out.alloc [.slice none 0 0,.slice none 0 0] 37 (g:=w21_.heap.size) rfl);replace E:=zz (E.out.alloc Z40 40 (g:=(w21_.heap.size+1)) zq16);refine zK rfl 37 _ _ rfl rfl w21_.heap.size 0 d22_ [] [.slice none 0 0,.slice none 0 0] [] rfl rfl (E.out.box 1 rfl) zq6 (rfl) (by rw [Ld22_.out];rfl) zq54 Od22_.out ?_;intro W29_ hp hn;replace E:=E.out.put2 1 hp hn zq8;clear hp hn)|((with_reducible refine zE (t:=40) (p:=9) rfl ?_);refine zK rfl 40 _ _ rfl rfl (w21_.heap.size+1) 0 d23_ [] Z40 [] rfl rfl (E.out.box 0 rfl) zq6 (rfl) (by rw [Ld23_.out];rfl) zq55 Od23_.out ?_;intro W30_ hp hn;replace E:=E.out.put2 0 hp hn zq8;clear hp hn)|((with_reducible refine zn (N:=37) rfl ?_);refine zA rfl 37 _ rfl w21_.heap.size 0 [] d22_ [] _ rfl (E.out.box 1 rfl) zq6 (rfl) Tryz.underlying37 rfl zq54 ?_)|((with_reducible refine zn (N:=38) rfl ?_);refine zA rfl 37 _ rfl w6_.heap.size 0 [] d7_ [] _ rfl (E.out.box 7 rfl) zq6 (rfl) Tryz.underlying37 rfl zq59 ?_))
 ((with_reducible refine (eqDisk_c k z0 z0 true _ (E.out.mk_ 2 rfl) (E.out.mk_ 8 rfl) HEQ0.out).mono ?_);rintro e w31_ ⟨rfl,hb⟩)
 replace E:=zz (E.out.call hb);clear hb
 go_wp2_with (first|((with_reducible refine zn (N:=42) rfl ?_);refine zva zq15 40 _ rfl (w21_.heap.size+1) 0 [] d23_ [] _ rfl (E.out.box 0 rfl) zq6 (rfl) Tryz.underlying40 rfl zq55 ?_)|((with_reducible refine zn (N:=43) rfl ?_);refine zva zq15 40 _ rfl (w6_.heap.size+1) 0 [] d8_ [] _ rfl (E.out.box 6 rfl) zq6 (rfl) Tryz.underlying40 rfl zq51 ?_))
 ((with_reducible refine (eqMeta_c k z1 z1 true _ (E.out.mk_ 3 rfl) (E.out.mk_ 9 rfl) HEQ1.out).mono ?_);rintro e w32_ ⟨rfl,hb⟩)
 replace E:=zz (E.out.call hb);clear hb
 go_upto_region 10 with (fail)
 replace E:=zz E.out.drew
 refine zca cm_great_ok10_0 (S:=fun w'=>w'.heap[w16_.heap.size]?=some (.cells (([]++(d17_++[])):List Value).toArray 46 (0,0))∧w'.heap[w.heap.size]?=some (.cells (cs0:List Value).toArray 33 (0,0))∧True) zq7 (fun _ _ _ _ h=>h) ⟨(E.out.box 4 rfl),(E.out.box 11 rfl),trivial⟩ (fun hHeld=> ?_)
 generalize hq:World.drew _=w33_ at hHeld ⊢;replace E:=E.out.to hq;clear hq
 refine zJ (a':= ?ax34_) rfl rfl zq15 46 _ rfl w16_.heap.size 0 [] d17_ [] _ rfl (fun w' hs=>hs.1) zq6 (rfl) Tryz.underlying46 rfl zq49 ?px34_ ?kx34_
 case px34_=>(show Act.put _ (some _) _=_;simp only [Act.put,s_A,s_0,s_1,zr];try rfl)
 refine zJ (a':= ?ax35_) rfl rfl zq15 33 _ rfl w.heap.size 0 [] cs0 [] _ rfl (fun w' hs=>hs.2.1) zq6 (rfl) Tryz.underlying33 rfl zq56 ?px35_ ?kx35_
 case px35_=>(show Act.put _ (some _) _=_;simp only [Act.put,s_A,s_0,s_1,zr];try rfl)
 refine zW rfl (zL rfl Tryz.func8 zq7 rfl #[.agg cs0.toArray] zq15 rfl zq10 ?_)
 with_reducible refine (toTxn_c k a0 d0 _ (E.out.K KA0.out) HT0.out).mono ?_
 rintro e w36_ ⟨d37_,rfl,Md37_,hb⟩
 have q:=E.out.made4 O.out 11 rfl Md37_ hb;clear O E Md37_ hb;obtain ⟨n38_,m39_,Ld37_,Od37_,O,E⟩:=q
 refine ⟨_,rfl,⟨(E.out.box 5 rfl),(E.out.box 12 rfl),trivial⟩,(fun hHeld=> ?_)⟩
 refine zG (a':= ?_) ?_ ?_;rotate_left;(· show Act.put _ (some 54) _=_;simp only [Act.put,s_A,s_0,s_1,zr];try rfl)
 refine zW rfl (zL rfl Tryz.func12 zq7 rfl #[.agg d17_.toArray,.agg d37_.toArray] zq15 rfl zq10 ?_)
 with_reducible refine (eqTxn_c k d0 _ (E.out.mk_ 6 rfl) (E.out.mk_ 0 rfl) HEX0.out).mono ?_
 rintro e w40_ ⟨rfl,hb⟩
 replace E:=zz (E.out.call hb);clear hb
 refine ⟨_,rfl,⟨(E.out.box 5 rfl),(E.out.box 12 rfl),trivial⟩,(fun hHeld=> ?_)⟩
 refine zG (a':= ?_) ?_ ?_;rotate_left;(· show Act.put _ (some 55) _=_;simp only [Act.put,s_A,s_0,s_1,zr];try rfl)
 (refine zY (v:= ?_) (a':= ?_) rfl rfl (Or.inl ⟨by rfl,?_⟩) ?_ ?_;rotate_left;(· intro w';go_simp;with_reducible rfl);rotate_left;(· show Act.put _ (some _) _=_;simp only [Act.put,s_A,s_0,s_1,zr];try rfl))
 refine zX ?_
 clear hHeld
 go_wp2_with (first|((with_reducible refine zn (N:=57) rfl ?_);refine zA rfl 46 _ rfl w16_.heap.size 0 [] d17_ [] _ rfl (E.out.box 5 rfl) zq6 (rfl) Tryz.underlying46 rfl zq49 ?_))
 ((with_reducible refine (markTxn_c k d0 1 d0_ mk0 _ w _ E.out.below (E.out.mbound 6 rfl) (E.out.made 6 rfl) HMK0.out).mono ?_);rintro e w41_ ⟨rfl,M,hB,hK⟩)
 replace E:=zz (E.out.marked 6 rfl M hB hK zq35);clear M hB hK
 go_wp2_with (first|((with_reducible refine zn (N:=63) rfl ?_);refine zva zq15 37 _ rfl w21_.heap.size 0 [] d22_ [] _ rfl (E.out.box 2 rfl) zq6 (rfl) Tryz.underlying37 rfl zq54 ?_)|((with_reducible refine zn (N:=64) rfl ?_);refine zva zq15 37 _ rfl w6_.heap.size 0 [] d7_ [] _ rfl (E.out.box 8 rfl) zq6 (rfl) Tryz.underlying37 rfl zq59 ?_))
 ((with_reducible refine (eqDisk_c k z0 z0 true _ (E.out.mk_ 3 rfl) (E.out.mk_ 9 rfl) HEQ0.out).mono ?_);rintro e w42_ ⟨rfl,hb⟩)
 replace E:=zz (E.out.call hb);clear hb
 go_wp2_with (first|((with_reducible refine zn (N:=69) rfl ?_);refine zva zq15 40 _ rfl (w21_.heap.size+1) 0 [] d23_ [] _ rfl (E.out.box 1 rfl) zq6 (rfl) Tryz.underlying40 rfl zq55 ?_)|((with_reducible refine zn (N:=70) rfl ?_);refine zva zq15 40 _ rfl (w6_.heap.size+1) 0 [] d8_ [] _ rfl (E.out.box 7 rfl) zq6 (rfl) Tryz.underlying40 rfl zq51 ?_))
 ((with_reducible refine (eqMeta_c k z1 z1 true _ (E.out.mk_ 4 rfl) (E.out.mk_ 10 rfl) HEQ1.out).mono ?_);rintro e w43_ ⟨rfl,hb⟩)
 replace E:=zz (E.out.call hb);clear hb
 go_wp2_with (first|((with_reducible refine zn (N:=79) rfl ?_);refine zA rfl 37 _ rfl w21_.heap.size 0 [] d22_ [] _ rfl (E.out.box 2 rfl) zq6 (rfl) Tryz.underlying37 rfl zq54 ?_))
 ((with_reducible refine (markDisk_c k z0 1 z0_ mg0 _ w _ E.out.below (E.out.mbound 3 rfl) (E.out.made 3 rfl) HMG0.out).mono ?_);rintro e w44_ ⟨rfl,M,hB,hK⟩)
 replace E:=zz (E.out.marked 3 rfl M hB hK zq35);clear M hB hK
 go_wp2_with (first|((with_reducible refine zn (N:=82) rfl ?_);refine zA rfl 40 _ rfl (w21_.heap.size+1) 0 [] d23_ [] _ rfl (E.out.box 1 rfl) zq6 (rfl) Tryz.underlying40 rfl zq55 ?_))
 ((with_reducible refine (markMeta_c k z1 mg0 z1_ mg1 _ w _ E.out.below (E.out.mbound 4 rfl) (E.out.made 4 rfl) HMG1.out).mono ?_);rintro e w45_ ⟨rfl,M,hB,hK⟩)
 replace E:=zz (E.out.marked 4 rfl M hB hK zq35);clear M hB hK
 go_wp2_with (first|((with_reducible refine zn (N:=85) rfl ?_);refine zA rfl 37 _ rfl w21_.heap.size 0 [] d22_ [] _ rfl (E.out.box 2 rfl) zq6 (rfl) Tryz.underlying37 rfl zq54 ?_))
 ((with_reducible refine (heldDisk_c k z0_ 1 mg0 _ (E.out.mk_ 3 rfl) HHD0.out).mono ?_);rintro e w46_ ⟨rfl,hb⟩)
 replace E:=zz (E.out.call hb);clear hb
 go_wp2_with (first|((with_reducible refine zn (N:=90) rfl ?_);refine zA rfl 40 _ rfl (w21_.heap.size+1) 0 [] d23_ [] _ rfl (E.out.box 1 rfl) zq6 (rfl) Tryz.underlying40 rfl zq55 ?_))
 ((with_reducible refine (heldMeta_c k z1_ mg0 mg1 _ (E.out.mk_ 4 rfl) HHD1.out).mono ?_);rintro e w47_ ⟨rfl,hb⟩)
 replace E:=zz (E.out.call hb);clear hb
 go_wp2_with (first|((with_reducible refine zn (N:=99) rfl ?_);refine zA rfl 33 _ rfl w.heap.size 0 [] cs0 [] _ rfl (E.out.box 12 rfl) zq6 (rfl) Tryz.underlying33 rfl zq56 ?_))
 ((with_reducible refine (toTxn_c k a0 d0 _ (E.out.K KA0.out) HT0.out).mono ?_);rintro e w48_ ⟨d49_,rfl,Md49_,hb⟩)
 have q:=E.out.made4 O.out 11 rfl Md49_ hb;clear O E Md49_ hb;obtain ⟨n50_,m51_,Ld49_,Od49_,O,E⟩:=q
 go_wp2_with fail
 ((with_reducible refine (implCommit_c k d0 z0 z1 z2 _ (E.out.mk_ 0 rfl) HIM.out).mono ?_);rintro e w52_ ⟨d53_,d54_,rfl,⟨ga,gb,gc,gd,hO,Md53_,Md54_⟩,hb⟩)
 have Ld53_:=zz (show d53_.length=2 from Kd.K_len _ (Kd.K_of_M _ Md53_));have Od53_:=zz (zub (Kd.K_of_M _ Md53_))
 have Ld54_:=zz (show d54_.length=4 from Kd.K_len _ (Kd.K_of_M _ Md54_));have Od54_:=zz (zub (Kd.K_of_M _ Md54_))
 obtain ⟨n55_,m56_,n57_,m58_,hn⟩:∃p q r s,p=ga∧q=gb∧r=gc∧s=gd:=⟨_,_,_,_,rfl,rfl,rfl,rfl⟩
 obtain ⟨rfl,rfl,rfl,rfl⟩:=hn
 obtain ⟨t59_,hT,hE⟩:=E.out.made22 hO Md53_ Md54_ hb;replace O:=zz (And.intro hT O.out);replace E:=zz hE;clear hT hE hO hb Md53_ Md54_
 go_wp2_with (first|((with_reducible refine zE (t:=37) (p:=14) rfl ?_);replace O:=zz (And.intro E.out.le O.out);replace E:=zz (E.out.alloc [.slice none 0 0,.slice none 0 0] 37 (g:=w52_.heap.size) rfl);replace E:=zz (E.out.alloc Z40 40 (g:=(w52_.heap.size+1)) zq16);refine zK rfl 37 _ _ rfl rfl w52_.heap.size 0 d53_ [] [.slice none 0 0,.slice none 0 0] [] rfl rfl (E.out.box 1 rfl) zq6 (rfl) (by rw [Ld53_.out];rfl) (by rw [Ld53_.out];kernel_rfl) Od53_.out ?_;intro W60_ hp hn;replace E:=E.out.put2 1 hp hn zq8;clear hp hn)|((with_reducible refine zE (t:=40) (p:=15) rfl ?_);refine zK rfl 40 _ _ rfl rfl (w52_.heap.size+1) 0 d54_ [] Z40 [] rfl rfl (E.out.box 0 rfl) zq6 (rfl) (by rw [Ld54_.out];rfl) (by rw [Ld54_.out];kernel_rfl) Od54_.out ?_;intro W61_ hp hn;replace E:=E.out.put2 0 hp hn zq8;clear hp hn)|((with_reducible refine zn (N:=105) rfl ?_);refine zA rfl 37 _ rfl w52_.heap.size 0 [] d53_ [] _ rfl (E.out.box 1 rfl) zq6 (rfl) Tryz.underlying37 rfl (by rw [Ld53_.out];kernel_rfl) ?_)|((with_reducible refine zn (N:=106) rfl ?_);refine zA rfl 37 _ rfl w6_.heap.size 0 [] d7_ [] _ rfl (E.out.box 13 rfl) zq6 (rfl) Tryz.underlying37 rfl zq59 ?_))
 ((with_reducible refine (eqDisk_c k z0 z0 true _ (E.out.mk_ 2 rfl) (E.out.mk_ 14 rfl) HEQ0.out).mono ?_);rintro e w62_ ⟨rfl,hb⟩)
 replace E:=zz (E.out.call hb);clear hb
 go_wp2_with (first|((with_reducible refine zn (N:=110) rfl ?_);refine zva zq15 40 _ rfl (w52_.heap.size+1) 0 [] d54_ [] _ rfl (E.out.box 0 rfl) zq6 (rfl) Tryz.underlying40 rfl (by rw [Ld54_.out];kernel_rfl) ?_)|((with_reducible refine zn (N:=111) rfl ?_);refine zva zq15 40 _ rfl (w6_.heap.size+1) 0 [] d8_ [] _ rfl (E.out.box 12 rfl) zq6 (rfl) Tryz.underlying40 rfl zq51 ?_))
 ((with_reducible refine (eqMeta_c k z1 z1 true _ (E.out.mk_ 3 rfl) (E.out.mk_ 15 rfl) HEQ1.out).mono ?_);rintro e w63_ ⟨rfl,hb⟩)
 replace E:=zz (E.out.call hb);clear hb
 go_wp2_with (first|((with_reducible refine zn (N:=120) rfl ?_);refine zA rfl 37 _ rfl w21_.heap.size 0 [] d22_ [] _ rfl (E.out.box 7 rfl) zq6 (rfl) Tryz.underlying37 rfl zq54 ?_))
 ((with_reducible refine (heldDisk_c k z0_ 1 mg0 _ (E.out.mk_ 8 rfl) HHD0.out).mono ?_);rintro e w64_ ⟨rfl,hb⟩)
 replace E:=zz (E.out.call hb);clear hb
 go_wp2_with (first|((with_reducible refine zn (N:=125) rfl ?_);refine zA rfl 40 _ rfl (w21_.heap.size+1) 0 [] d23_ [] _ rfl (E.out.box 6 rfl) zq6 (rfl) Tryz.underlying40 rfl zq55 ?_))
 ((with_reducible refine (heldMeta_c k z1_ mg0 mg1 _ (E.out.mk_ 9 rfl) HHD1.out).mono ?_);rintro e w65_ ⟨rfl,hb⟩)
 replace E:=zz (E.out.call hb);clear hb
 go_wp2_with fail
 go_ret
 exact ⟨rfl,E.out.below⟩
end Go.Proofs.YtonhdiemjgdcnaaGreat.PFnExactGivePage
namespace Go.Proofs.YtonhdiemjgdcnaaGreat.PFnExactGivePage
open Go.RowKit Go.Proofs.YtonhdiemjgdcnaaGreatW.PrintWords Go.Proofs.YtonhdiemjgdcnaaGreatW.PrintLast Go.Proofs.YtonhdiemjgdcnaaGreatW.PrintMore
attribute [local go_sem] zka zma zta zsa zaa zba zja zla
theorem inS_f (a lo hi:Int):spec_l01In.f a lo hi=some (inB a lo hi):=by
 unfold spec_l01In.f inB
 by_cases h:a≥lo
 ·rw [if_pos h,decide_eq_true (show lo≤a from h)];rfl
 ·rw [if_neg h,decide_eq_false (show ¬lo≤a from h)];rfl
theorem le200 (n:Nat):decide ((n:Int)≤200)= !decide ((n:Int)>200):=by
 by_cases h:(n:Int)>200
 ·rw [decide_eq_true h,decide_eq_false zq5];rfl
 ·rw [decide_eq_false h,decide_eq_true zq5];rfl
theorem ds1 (p:List ByteArray) (q:List S110) (hp:p.length≤2000000) (hq:q.length≤2000000):∀n i:Nat,i+n=q.length→Ev (fun k=>spec_DiskOk.l1 k (i:Int) p q) (!(q.drop i).any (badP p.length)&&(inB (p.length:Int) 4 40&& !decide ((q.length:Int)>200))):=by
 have w1:wrap64 ((p.length:Int)-1)=(p.length:Int)-1:=zP zq5 zq5
 intro n
 induction n with
 |zero=>
  intro i hi
  rw [List.drop_eq_nil_of_le (show q.length≤i by omega)]
  refine Ev.step (f:=fun _=>some (!([]:List S110).any (badP p.length)&&(inB (p.length:Int) 4 40&& !decide ((q.length:Int)>200)))) (fun k=> ?_) (Ev.now _)
  rw [spec_DiskOk.l1,if_neg zq5,inS_f,Option.bind_some,le200]
  cases inB (p.length:Int) 4 40<;>rfl
 |succ n ih=>
  intro i hi
  have hlt:i<q.length:=by omega
  have w2:wrap64 ((i:Int)+1)=((i+1:Nat):Int):=by rw [zP zq5 zq5];omega
  rw [List.drop_eq_getElem_cons hlt,List.any_cons]
  by_cases hb:inB q[i].f0 0 ((p.length:Int)-1)=true
  ·by_cases hs:(q[i].f1.size:Int)>240
   ·have e:badP p.length q[i]=true:=by unfold badP bigT;rw [decide_eq_true hs,Bool.or_true]
    rw [e]
    refine Ev.step (f:=fun _=>some false) (fun k=> ?_) (Ev.now _)
    rw [spec_DiskOk.l1,if_pos zq5,if_pos zq5,rd135 _ _ hlt,w1,inS_f,Option.bind_some,if_pos hb,if_pos hs]
   ·have e:badP p.length q[i]=false:=by unfold badP bigT;rw [decide_eq_false hs,hb];rfl
    rw [e,Bool.false_or]
    refine Ev.step (f:=fun k=>spec_DiskOk.l1 k ((i+1:Nat):Int) p q) (fun k=> ?_) (ih (i+1) zq5)
    rw [spec_DiskOk.l1,if_pos zq5,if_pos zq5,rd135 _ _ hlt,w1,inS_f,Option.bind_some,if_pos hb,if_neg hs,w2]
  ·have hb2:inB q[i].f0 0 ((p.length:Int)-1)=false:=by cases h:inB q[i].f0 0 ((p.length:Int)-1)<;>simp_all
   have e:badP p.length q[i]=true:=by unfold badP;rw [hb2];rfl
   rw [e]
   refine Ev.step (f:=fun _=>some false) (fun k=> ?_) (Ev.now _)
   rw [spec_DiskOk.l1,if_pos zq5,if_pos zq5,rd135 _ _ hlt,w1,inS_f,Option.bind_some,if_neg hb]
theorem ds0 (p:List ByteArray) (q:List S110) (hp:p.length≤2000000) (hq:q.length≤2000000):∀n i:Nat,i+n=p.length→Ev (fun k=>spec_DiskOk.l0 k (i:Int) p q) (!(p.drop i).any bigT&&(!q.any (badP p.length)&&(inB (p.length:Int) 4 40&& !decide ((q.length:Int)>200)))):=by
 intro n
 induction n with
 |zero=>
  intro i hi
  rw [List.drop_eq_nil_of_le (show p.length≤i by omega)]
  refine Ev.step (f:=fun k=>spec_DiskOk.l1 k ((0:Nat):Int) p q) (fun k=> ?_) ?_
  ·rw [spec_DiskOk.l0,if_neg zq5]
   rfl
  ·exact ds1 p q hp hq q.length 0 zq5
 |succ n ih=>
  intro i hi
  have hlt:i<p.length:=by omega
  have w2:wrap64 ((i:Int)+1)=((i+1:Nat):Int):=by rw [zP zq5 zq5];omega
  rw [List.drop_eq_getElem_cons hlt,List.any_cons]
  by_cases hs:(p[i].size:Int)>240
  ·have e:bigT p[i]=true:=by unfold bigT;rw [decide_eq_true hs]
   rw [e]
   refine Ev.step (f:=fun _=>some false) (fun k=> ?_) (Ev.now _)
   rw [spec_DiskOk.l0,if_pos zq5,if_pos zq5,rdOf_nat _ _ _ hlt,if_pos hs]
  ·have e:bigT p[i]=false:=by unfold bigT;rw [decide_eq_false hs]
   rw [e,Bool.false_or]
   refine Ev.step (f:=fun k=>spec_DiskOk.l0 k ((i+1:Nat):Int) p q) (fun k=> ?_) (ih (i+1) zq5)
   rw [spec_DiskOk.l0,if_pos zq5,if_pos zq5,rdOf_nat _ _ _ hlt,if_neg hs,w2]
theorem diskOkS_ev (p:List ByteArray) (q:List S110) (hp:p.length≤2000000) (hq:q.length≤2000000):Ev (fun k=>spec_DiskOk.f k p q) (DOk p q):=by
 have h:=ds0 p q hp hq p.length 0 zq5
 have e:(!(p.drop 0).any bigT&&(!q.any (badP p.length)&&(inB (p.length:Int) 4 40&& !decide ((q.length:Int)>200))))=DOk p q:=by
  rw [List.drop_zero]
  unfold DOk
  generalize p.any bigT=a1
  generalize q.any (badP p.length)=a2
  generalize inB (p.length:Int) 4 40=a3
  generalize decide ((q.length:Int)>200)=a4
  cases a1<;>cases a2<;>cases a3<;>cases a4<;>rfl
 rw [e] at h
 exact h
def wrOk (p:List ByteArray) (q:List S110) (a:Int) (t:ByteArray):Bool:=DOk p q&&inB a 0 ((p.length:Int)-1)&& !bigT t&& !decide ((q.length:Int)≥200)
def wrD (z:(List ByteArray×List S110)) (a:Int) (t:ByteArray):(List ByteArray×List S110):=if wrOk z.1 z.2 a t=true then (z.1,z.2++[(⟨a,t⟩:S110)]) else z
theorem cloneD_id2 (p:List ByteArray) (q:List S110) (hp:p.length≤2000000) (hq:q.length≤2000000):impl_cloneDisk.f p q=some (p,q):=by
 unfold impl_cloneDisk.f slices_Clone_string_string.f impl_Put.f
 rw [if_pos zq5,if_pos zq5]
 rfl
theorem writeI_f (z:(List ByteArray×List S110)) (a:Int) (t:ByteArray) (hp:z.1.length≤2000000) (hq:z.2.length≤2000000):impl_WritePage.f z.1 z.2 a t=some ((wrD z a t).1,(wrD z a t).2,wrOk z.1 z.2 a t):=by
 obtain ⟨p,q⟩:=z
 have w1:wrap64 ((p.length:Int)-1)=(p.length:Int)-1:=zP zq58 zq58
 have hq':q.length≤2000000:=hq
 unfold impl_WritePage.f impl_DiskOk.f impl_isPage.f impl_in.f wrD wrOk
 rw [cloneD_id2 p q hp hq,Option.bind_some,Option.bind_some,w1]
 have e:∀b:Bool,(if a≥0 then some (decide (a≤(p.length:Int)-1)) else some false)=some (inB a 0 ((p.length:Int)-1)):=fun _=>inS_f a 0 _
 show (if DOk p q=true then _ else _)=_
 cases h1:DOk p q with
 |false=>rfl
 |true=>
  rw [if_pos rfl]
  have e2:(if a≥0 then some (decide (a≤(p.length:Int)-1)) else some false)=some (inB a 0 ((p.length:Int)-1)):=e true
  cases h2:inB a 0 ((p.length:Int)-1) with
  |false=>
   rw [h2] at e2
   simp only [e2,Option.bind_some]
   rfl
  |true=>
   rw [h2] at e2
   simp only [e2,Option.bind_some,if_true]
   by_cases h3:(t.size:Int)>240
   ·have e3:bigT t=true:=decide_eq_true h3
    rw [if_pos h3,e3]
    rfl
   ·have e3:bigT t=false:=decide_eq_false h3
    rw [if_neg h3,e3]
    by_cases h4:(q.length:Int)≥200
    ·rw [if_pos h4,decide_eq_true h4]
     rfl
    ·rw [if_neg h4,decide_eq_false h4,if_pos zq5]
     rfl
theorem writeS_ev (z:(List ByteArray×List S110)) (a:Int) (t:ByteArray) (hp:z.1.length≤2000000) (hq:z.2.length≤2000000):Ev (fun k=>spec_WritePage.f k z.1 z.2 a t) ((wrD z a t).1,(wrD z a t).2,wrOk z.1 z.2 a t):=by
 obtain ⟨p,q⟩:=z
 have w1:wrap64 ((p.length:Int)-1)=(p.length:Int)-1:=zP zq58 zq58
 have hq':q.length≤2000000:=hq
 have hp':p.length≤2000000:=hp
 have eC:spec_l03Copy.f p q=some (p,q):=by
  unfold spec_l03Copy.f
  rw [Option.bind_some,if_pos (by rw [List.length_nil];omega),Option.bind_some,if_pos (by rw [List.length_nil];omega)]
  rfl
 have hD:=diskOkS_ev p q hp hq
 unfold wrD wrOk
 cases h1:DOk p q with
 |false=>
  rw [h1] at hD
  refine hD.imp ?_
  intro K hK k hk
  have hk:spec_DiskOk.f k p q=some _:=hK k hk
  show spec_WritePage.f k p q a t=_
  unfold spec_WritePage.f
  rw [eC,Option.bind_some,hk]
  rfl
 |true=>
  rw [h1] at hD
  have hle:(q.length:Int)≤200:=by
   have h2:=h1
   unfold DOk at h2
   simp only [Bool.and_eq_true,Bool.not_eq_true',decide_eq_false_iff_not] at h2
   have:=h2.1.1.2
   omega
  refine hD.imp ?_
  intro K hK k hk
  have hk:spec_DiskOk.f k p q=some _:=hK k hk
  show spec_WritePage.f k p q a t=_
  unfold spec_WritePage.f
  rw [eC,Option.bind_some,hk,Option.bind_some,if_pos rfl,w1,inS_f,Option.bind_some]
  show (if inB a 0 ((p.length:Int)-1)=true then (if (t.size:Int)>240 then some (p,q,false) else (if (q.length:Int)=200 then some (p,q,false) else (if q.length<5864062014805 then some (p,q++[(⟨a,t⟩:S110)],true) else none))) else some (p,q,false))=some ((if (true&&inB a 0 ((p.length:Int)-1)&& !bigT t&& !decide ((q.length:Int)≥200))=true then (p,q++[(⟨a,t⟩:S110)]) else (p,q)).1,(if (true&&inB a 0 ((p.length:Int)-1)&& !bigT t&& !decide ((q.length:Int)≥200))=true then (p,q++[(⟨a,t⟩:S110)]) else (p,q)).2,(true&&inB a 0 ((p.length:Int)-1)&& !bigT t&& !decide ((q.length:Int)≥200)))
  cases h2:inB a 0 ((p.length:Int)-1) with
  |false=>rfl
  |true=>
   rw [if_pos rfl]
   by_cases h3:(t.size:Int)>240
   ·have e3:bigT t=true:=decide_eq_true h3
    rw [if_pos h3,e3]
    rfl
   ·have e3:bigT t=false:=decide_eq_false h3
    rw [if_neg h3,e3]
    by_cases h4:(q.length:Int)≥200
    ·rw [if_pos (show (q.length:Int)=200 by omega),decide_eq_true h4]
     rfl
    ·rw [if_neg (show ¬(q.length:Int)=200 by omega),decide_eq_false h4,if_pos zq5]
     rfl
end Go.Proofs.YtonhdiemjgdcnaaGreat.PFnExactGivePage
namespace Go.Proofs.YtonhdiemjgdcnaaGreat.Opened
open Go.RowKit Go.Deep Go.WideShapes Go.Proofs.YtonhdiemjgdcnaaGreatW.PrintWords
def Opens {α:Type} (P:Program) (t:TypeId) (d:Kd α) (ok:α→Prop):Prop:=
 ∀(H:Type) (enc:TypeId×Value→H) (w:World) (base:Nat) (spare:Nat→Bool) (held:Bool) (fuel:Nat) (cs:List Value) (x:DataW H×List MemPlace),
  DataW.trod enc P w base spare held fuel t cs=some x→∃y:α,d.K w y cs∧ok y
variable {P:Program}
theorem zab {t:TypeId} {k:IntKind} (hu:P.underlying t=some (.int k)):Opens P t (Kd.int k) (fun _=>True):=by
 intro H enc w base spare held fuel cs x h
 obtain ⟨n,rfl,_,_⟩:=DataW.trod_int hu h
 exact ⟨n,rfl,trivial⟩
theorem opens_string {t:TypeId} (hu:P.underlying t=some .string):Opens P t Kd.string (fun s=>s.size≤9223372036854775807):=by
 intro H enc w base spare held fuel cs x h
 obtain ⟨n,rfl,_,hs⟩:=DataW.trod_string hu h
 exact ⟨n,rfl,by unfold maxLen at hs;omega⟩
theorem list_of {α:Type} (n:Nat) (Q:Nat→α→Prop) (h:∀i,i<n→∃y,Q i y):∃ys:List α,ys.length=n∧∀j p,ys[j]?=some p→Q j p:=by
 induction n with
 |zero=>exact ⟨[],rfl,fun j p h=>by simp at h⟩
 |succ n ih=>
  obtain ⟨ys,hl,hy⟩:=ih (fun i hi=>h i zq5)
  obtain ⟨y,hq⟩:=h n zq5
  refine ⟨ys++[y],by simp [hl],fun j p hj=> ?_⟩
  rcases Nat.lt_or_ge j n with hlt|hge
  ·rw [List.getElem?_append_left zq5] at hj
   exact hy j p hj
  ·have hj':j=n:=by
    have:=(List.getElem?_eq_some_iff.1 hj).1
    rw [List.length_append,List.length_singleton] at this
    omega
   subst hj'
   have:y=p:=by rw [List.getElem?_append_right zq5,hl,Nat.sub_self] at hj;simpa using hj
   subst this
   exact hq
theorem zmb {t e:TypeId} {α:Type} {d:Kd α} {ok:α→Prop} (hu:P.underlying t=some (.slice e)) (he:Opens P e d ok) (hc:P.cellsOf e=d.sz) (n:Nat):Opens P t (Kd.slice n d) (fun ys=>∀y∈ys,ok y):=by
 intro H enc w base spare held fuel cs x h
 rcases open_slice hu h with ⟨rfl,_⟩|⟨a,len,cap,m,n',D,Pl,rfl,_,hl,hm,hmm,_,hel⟩
 ·exact ⟨[],⟨none,0,rfl,Nat.le_refl _,rfl,by simp,fun h=>by simp at h⟩,fun y hy=>by cases hy⟩
 ·have hlm:len≤m:=by
   rw [hmm]
   split<;>omega
  obtain ⟨ys,hy,hq⟩:=list_of len (fun i y=>ok y∧∃cs',w.cells? base (a.add (i*P.cellsOf e)) (P.cellsOf e)=some cs'∧d.K w y cs') (fun i hi=>by
   obtain ⟨cs',h1,h2⟩:=hel i zq5
   obtain ⟨y,hy,hok⟩:=he _ enc w base spare held n' cs' _ h2
   exact ⟨y,hok,cs',h1,hy⟩)
  subst hy
  refine ⟨ys,⟨some a,cap,rfl,hl,rfl,by unfold maxLen at hm;omega,fun _=>⟨a,rfl,fun j p hj=> ?_⟩⟩,fun y hy=> ?_⟩
  ·obtain ⟨_,cs',h1,h2⟩:=hq j p hj
   obtain ⟨_,h3,h4⟩:=World.cells?_some h1
   refine ⟨cs',h3.trans hc,h2,fun i u hi=> ?_⟩
   have hi':i<P.cellsOf e:=by
    have:=(List.getElem?_eq_some_iff.1 hi).1
    omega
   have:=h4 i hi'
   rw [Addr.add_add,hc] at this
   rw [this]
   exact hi
  ·obtain ⟨j,hj,rfl⟩:=List.getElem_of_mem hy
   exact (hq j _ (List.getElem?_eq_getElem hj)).1
def Parts {α:Type} (P:Program) (fs:List Field) (o:Nat) (d:Kd α) (ok:α→Prop):Prop:=
 ∀(H:Type) (enc:TypeId×Value→H) (w:World) (base:Nat) (spare:Nat→Bool) (held:Bool) (fuel:Nat) (cs:List Value),cs.length=o+d.sz→
  (∀f∈fs,∃x:DataW H×List MemPlace,DataW.trod enc P w base spare held fuel f.type ((cs.drop f.offset).take (P.cellsOf f.type))=some x)→∃y:α,d.K w y (cs.drop o)∧ok y
theorem zhb {α:Type} {d:Kd α} {ok:α→Prop} {f:Field} {o:Nat} (hf:Opens P f.type d ok) (ho:f.offset=o) (hc:P.cellsOf f.type=d.sz):Parts P [f] o d ok:=by
 intro H enc w base spare held fuel cs hl h
 obtain ⟨x,hx⟩:=h f zq16
 rw [ho,hc,List.take_of_length_le (by rw [List.length_drop];omega)] at hx
 exact hf _ enc w base spare held fuel _ x hx
theorem zua {α β:Type} {d:Kd α} {ds:Kd β} {ok:α→Prop} {oks:β→Prop} {f:Field} {fs:List Field} {o o':Nat} (hf:Opens P f.type d ok) (ho:f.offset=o) (hc:P.cellsOf f.type=d.sz) (hs:Parts P fs o' ds oks) (ho':o'=o+d.sz):Parts P (f::fs) o (Kd.pair d ds) (fun p=>ok p.1∧oks p.2):=by
 intro H enc w base spare held fuel cs hl h
 subst ho'
 have hl':cs.length=o+(d.sz+ds.sz):=hl
 obtain ⟨x,hx⟩:=h f zq16
 rw [ho,hc] at hx
 obtain ⟨y,hy,oy⟩:=hf _ enc w base spare held fuel _ x hx
 obtain ⟨z,hz,oz⟩:=hs _ enc w base spare held fuel cs zq5 (fun g hg=>h g (by simp [hg]))
 refine ⟨(y,z),⟨(cs.drop o).take d.sz,cs.drop (o+d.sz),?_,hy,hz⟩,oy,oz⟩
 rw [←List.drop_drop]
 exact (List.take_append_drop _ _).symm
theorem zRa {t:TypeId} {fs:Array Field} {α β:Type} {d:Kd α} {ok:α→Prop} (hu:P.underlying t=some (.struct fs)) (hp:Parts P fs.toList 0 d ok) (hc:P.cellsOf t=d.sz) (f:β→α) (g:α→β) (hg:∀y,f (g y)=y):Opens P t (Kd.iso d f) (fun y=>ok (f y)):=by
 intro H enc w base spare held fuel cs x h
 obtain ⟨xs,n,_,_,hl,hlen,hi⟩:=DataW.trod_struct hu h
 obtain ⟨y,hy,oy⟩:=hp _ enc w base spare held n cs zq5 (fun fl hfl=>by
  obtain ⟨i,hlt,he⟩:=List.getElem_of_mem hfl
  have hlt':i<fs.size:=by simpa using hlt
  have:=hi i fl (by rw [Array.getElem?_eq_getElem hlt'];simpa using he)
  rw [List.getElem?_eq_getElem zq5] at this
  exact ⟨_,this⟩)
 refine ⟨g y,?_,?_⟩
 ·show d.K w (f (g y)) cs
  rw [hg]
  simpa using hy
 ·show ok (f (g y))
  rw [hg]
  exact oy
theorem arg_struct {t:TypeId} {fs:Array Field} {α:Type} {d:Kd α} {ok:α→Prop} (hu:P.underlying t=some (.struct fs)) (ho:Opens P t d ok) {H:Type} {enc:TypeId×Value→H} {w:World} {base b0:Nat} {spare:Nat→Bool} {held:Bool} {r:Reach} {v:Value} {x:DataW H} {p:List MemPlace}
  (hv:Value.okWide P w r b0 t v) (h:DataW.Trod enc P w base spare held t v x p):∃(y:α) (cs:List Value),v= .agg cs.toArray∧d.K w y cs∧ok y:=by
 obtain ⟨cs,rfl,_⟩:=okWide_struct hu hv
 obtain ⟨fuel,hf⟩:=h
 obtain ⟨y,hy,oy⟩:=ho _ enc w base spare held fuel _ _ hf
 exact ⟨y,cs.toList,by simp,by simpa [Value.cells] using hy,oy⟩
end Go.Proofs.YtonhdiemjgdcnaaGreat.Opened
namespace Go.Proofs.YtonhdiemjgdcnaaGreat.PFnExactGivePage
open Go.ChangeShapes Go.WideShapes Go.ChangeAt Go.RowKit
open Go.ChangeMaps (open_string shut_string)
open Go.Proofs.YtonhdiemjgdcnaaGreat.Opened Go.Proofs.YtonhdiemjgdcnaaGreatW.PrintWords
def dDisk:Kd (List ByteArray×List S156):=Kd.pair (Kd.slice 9 Kd.string) (Kd.slice 156 k156)
def okDisk (p:List ByteArray×List S156):Prop:=(∀s∈p.1,s.size≤9223372036854775807)∧∀s∈p.2,s.f1.size≤9223372036854775807
theorem opens156:Opens Tryz.prog 156 k156 (fun s=>s.f1.size≤9223372036854775807):=by
 have h:=zRa (P:=Tryz.prog) Tryz.underlying156 (zua (zab Tryz.underlying3) rfl zq7 (zhb (opens_string Tryz.underlying9) rfl zq7) rfl) zq7 (fun x:S156=>(x.f0,x.f1)) (fun p=>⟨p.1,p.2⟩) (fun _=>rfl)
 intro H enc w base spare held fuel cs x hx
 obtain ⟨y,h1,h2⟩:=h _ enc w base spare held fuel cs x hx
 exact ⟨y,h1,h2.2⟩
theorem opens28:Opens Tryz.prog 28 (Kd.iso dDisk id) okDisk:=
 zRa (P:=Tryz.prog) Tryz.underlying28 (zua (zmb Tryz.underlying25 (opens_string Tryz.underlying9) zq7 9) rfl zq7 (zhb (zmb Tryz.underlying26 opens156 zq7 156) rfl zq7) rfl) zq7 id id (fun _=>rfl)
theorem opens140:Opens Tryz.prog 140 k140 (fun s=>True∧∀y∈s.f1,True):=
 zRa (P:=Tryz.prog) Tryz.underlying140 (zua (zab Tryz.underlying3) rfl zq7 (zhb (zmb Tryz.underlying29 (zab Tryz.underlying3) zq7 3) rfl zq7) rfl) zq7 (fun x:S140=>(x.f0,x.f1)) (fun p=>⟨p.1,p.2⟩) (fun _=>rfl)
def dWork:Kd ((List ByteArray×List S156)×Int×List Int×List Int×List Int):=Kd.pair (Kd.iso dDisk id) (Kd.pair (Kd.int .i64) (Kd.pair (Kd.slice 3 (Kd.int .i64)) (Kd.pair (Kd.slice 3 (Kd.int .i64)) (Kd.slice 3 (Kd.int .i64)))))
theorem opensI:Opens Tryz.prog 29 (Kd.slice 3 (Kd.int .i64)) (fun ys=>∀y∈ys,True):=zmb Tryz.underlying29 (zab Tryz.underlying3) zq7 3
def unW (p:(List ByteArray×List S156)×Int×List Int×List Int×List Int):(List ByteArray×List S156×Int×List Int×List Int×List Int):=(p.1.1,p.1.2,p.2)
def reW (p:(List ByteArray×List S156×Int×List Int×List Int×List Int)):(List ByteArray×List S156)×Int×List Int×List Int×List Int:=((p.1,p.2.1),p.2.2)
theorem opens31:∃ok,Opens Tryz.prog 31 (Kd.iso dWork reW) ok∧∀x,ok x→okDisk (x.1,x.2.1):=⟨_,
 zRa (P:=Tryz.prog) Tryz.underlying31 (zua opens28 rfl zq7 (zua (zab Tryz.underlying3) rfl zq7 (zua opensI rfl zq7 (zua opensI rfl zq7 (zhb opensI rfl zq7) rfl) rfl) rfl) rfl) zq7 reW unW (fun _=>rfl),fun x h=>h.1⟩
def dTxn:Kd (S24×(List ByteArray×List S156×Int×List Int×List Int×List Int)×Int):=Kd.pair k24 (Kd.pair (Kd.iso dWork reW) (Kd.int .i64))
theorem C183_len {w:World} {A:Option Addr} {xs:List S140} (h:Kd.C k140 w A xs.length xs):INm xs:=by
 refine ⟨fun s hs=> ?_,h.2.1⟩
 obtain ⟨j,hj,rfl⟩:=List.getElem_of_mem hs
 obtain ⟨_,_,_,_,_,_,_,hC⟩:=at_T140 h (j:Int) zq5 zq5
 rw [rd_T140_nat _ _ hj] at hC
 exact hC.2.1
theorem K69_len {w:World} {x:S24} {cs:List Value} (h:k24.K w x cs):INm x.f3:=by
 obtain ⟨A,c,rfl,m,r⟩:=k24_open h
 exact C183_len r
theorem KW_len {w:World} {x:(List ByteArray×List S156×Int×List Int×List Int×List Int)} {cs:List Value} (h:kWorkL.K w x cs) (ho:okDisk (x.1,x.2.1)):INd x.1 x.2.1∧INi x.2.2.2.1∧INi x.2.2.2.2.1∧INi x.2.2.2.2.2:=by
 obtain ⟨l0,l1,l2,l3,l4,l5⟩:=x
 obtain ⟨A0,c0,A1,c1,A3,c3,A4,c4,A5,c5,rfl,m0,r0,m1,r1,m3,r3,m4,r4,m5,r5⟩:=kWorkL_open h
 exact ⟨⟨ho.1,r0.2.1,ho.2,r1.2.1⟩,r3.2.1,r4.2.1,r5.2.1⟩
theorem Kw_of {w:World} {x:(List ByteArray×List S156×Int×List Int×List Int×List Int)} {cs:List Value} (h:(Kd.iso dWork reW).K w x cs):kWorkL.K w x cs:=by
 obtain ⟨l0,l1,l2,l3,l4,l5⟩:=x
 obtain ⟨_,_,rfl,⟨_,_,rfl,⟨A0,c0,rfl,m0,r0⟩,⟨A1,c1,rfl,m1,r1⟩⟩,⟨_,_,rfl,rfl,⟨_,_,rfl,⟨A3,c3,rfl,m3,r3⟩,⟨_,_,rfl,⟨A4,c4,rfl,m4,r4⟩,⟨A5,c5,rfl,m5,r5⟩⟩⟩⟩⟩:=h
 exact kWorkL_mk m0 r0 m1 r1 m3 r3 m4 r4 m5 r5
theorem Kt_of {w:World} {x:(S24×(List ByteArray×List S156×Int×List Int×List Int×List Int)×Int)} {cs:List Value} (h:dTxn.K w x cs):kTxnL.K w x cs:=by
 obtain ⟨c0,c1,rfl,h0,c2,c3,rfl,h1,h2⟩:=h
 exact ⟨c0,_,rfl,h0,c2,c3,rfl,Kw_of h1,h2⟩
def INt (x:(S24×(List ByteArray×List S156×Int×List Int×List Int×List Int)×Int)):Prop:=INm x.1.f3∧INd x.2.1.1 x.2.1.2.1∧INi x.2.1.2.2.2.1∧INi x.2.1.2.2.2.2.1∧INi x.2.1.2.2.2.2.2
theorem KT_len {w:World} {x:(S24×(List ByteArray×List S156×Int×List Int×List Int×List Int)×Int)} {cs:List Value} (h:kTxnL.K w x cs) (ho:okDisk (x.2.1.1,x.2.1.2.1)):INt x:=by
 obtain ⟨c0,c1,rfl,h0,c2,c3,rfl,h1,h2⟩:=h
 exact ⟨K69_len h0,KW_len h1 ho⟩
theorem opens_intr {P:Program} {t:TypeId} (hu:P.underlying t=some (.int .i64)):Opens P t (Kd.int .i64) (fun x=>x≤9223372036854775807):=by
 intro H enc w base spare held fuel cs x h
 obtain ⟨n,rfl,_,hw⟩:=DataW.trod_int hu h
 refine ⟨n,rfl,?_⟩
 have h2:(decide (IntKind.i64.min≤n)&&decide (n≤IntKind.i64.max))=true:=hw
 rw [Bool.and_eq_true] at h2
 have h3:n≤IntKind.i64.max:=of_decide_eq_true h2.2
 exact Int.le_trans h3 zq14
theorem opens24r:Opens Tryz.prog 24 k24 (fun x=>x.f0≤9223372036854775807∧True∧True∧∀s∈x.f3,True∧∀y∈s.f1,True):=
 zRa (P:=Tryz.prog) Tryz.underlying24 (zua (opens_intr Tryz.underlying3) rfl zq7 (zua (zab Tryz.underlying3) rfl zq7 (zua (zab Tryz.underlying3) rfl zq7 (zhb (zmb Tryz.underlying22 opens140 zq7 140) rfl zq7) rfl) rfl) rfl) zq7 (fun x:S24=>(x.f0,x.f1,x.f2,x.f3)) (fun p=>⟨p.1,p.2.1,p.2.2.1,p.2.2.2⟩) (fun _=>rfl)
theorem opens33r:∃ok,Opens Tryz.prog 33 (Kd.iso dTxn id) ok∧∀x,ok x→x.1.f0≤9223372036854775807∧okDisk (x.2.1.1,x.2.1.2.1):=by
 obtain ⟨ok,h,ho⟩:=opens31
 exact ⟨_,zRa (P:=Tryz.prog) Tryz.underlying33 (zua opens24r rfl zq7 (zua h rfl zq7 (zhb (zab Tryz.underlying3) rfl zq7) rfl) rfl) zq7 id id (fun _=>rfl),fun x h=>⟨h.1.1,ho _ h.2.1⟩⟩
theorem open_txnr {H:Type} {enc:TypeId×Value→H} {w:World} {base b0:Nat} {spare:Nat→Bool} {held:Bool} {r:Reach} {v:Value} {x:DataW H} {p:List MemPlace} (hv:Value.okWide Tryz.prog w r b0 33 v) (h:DataW.Trod enc Tryz.prog w base spare held 33 v x p):
  ∃(a:(S24×(List ByteArray×List S156×Int×List Int×List Int×List Int)×Int)) (cs:List Value),v= .agg cs.toArray∧kTxnL.K w a cs∧INtr a:=by
 obtain ⟨ok,ho,hk⟩:=opens33r
 obtain ⟨a,cs,rfl,h1,h2⟩:=arg_struct Tryz.underlying33 ho hv h
 have g:=hk _ h2
 exact ⟨a,cs,rfl,Kt_of h1,g.1,KT_len (Kt_of h1) g.2⟩
end Go.Proofs.YtonhdiemjgdcnaaGreat.PFnExactGivePage
namespace Go.Proofs.YtonhdiemjgdcnaaGreat.PFnExactGivePage
open Go.RowKit Go.Proofs.YtonhdiemjgdcnaaGreatW.PrintWords Go.Proofs.YtonhdiemjgdcnaaGreatW.PrintLast Go.Proofs.YtonhdiemjgdcnaaGreatW.PrintMore
attribute [local go_sem] zka zma zta zsa zaa zba zja zla
theorem nm_ev2 (d:(S40×(List ByteArray×List S110×Int×List Int×List Int×List Int)×Int)) (h:OKt d):∃z b,EvP (fun k=>SpecNM k d z b)∧EvP (fun k=>ImplNM k d z b)∧OKn z.f3∧(b=true→MOk z):=by
 have h0:=h.1
 have hx:SmallM d.1:=⟨Nat.le_trans h.2.1.1 zq14,fun f hf=>Nat.le_trans (h.2.1.2 f hf) zq14⟩
 have hl:d.2.1.2.2.2.1.length≤2000000∧d.2.1.2.2.2.2.1.length≤2000000∧d.2.1.2.2.2.2.2.length≤2000000:=⟨Nat.le_trans h.2.2.2.1 zq14,Nat.le_trans h.2.2.2.2.1 zq14,Nat.le_trans h.2.2.2.2.2 zq14⟩
 by_cases hc:d.1.f0<100001
 ·obtain ⟨t,b,hm,hb⟩:=mt_ex_ vtN sealN (nmM (wrap64 (d.1.f0+1)) d.2.2 d.2.1.2.2.1 d.1 d.2.1.2.2.2.1 d.2.1.2.2.2.2.1 d.2.1.2.2.2.2.2)
  refine ⟨_,b,txF.imp (fun k T=>⟨vtN,sealN,_,t,T,hx,hl,.inl ⟨hc,rfl⟩,hm,rfl⟩),txF.imp (fun k T=>⟨vtN,sealN,t,T,hx,hl,hm,rfl⟩),?_⟩
  cases b with
  |false=>exact ⟨⟨Nat.zero_le _,fun s hs=>by cases hs⟩,fun h=>by cases h⟩
  |true=>exact ⟨(hb rfl).okn,fun _=>hb rfl⟩
 ·have n1:¬MOk (nmM d.1.f0 d.2.2 d.2.1.2.2.1 d.1 d.2.1.2.2.2.1 d.2.1.2.2.2.2.1 d.2.1.2.2.2.2.2):=fun g=>by
   have g0:d.1.f0≤100000:=g.f0.2
   omega
  have n2:¬MOk (nmM (wrap64 (d.1.f0+1)) d.2.2 d.2.1.2.2.1 d.1 d.2.1.2.2.2.1 d.2.1.2.2.2.2.1 d.2.1.2.2.2.2.2):=fun g=>by
   have g0:0≤wrap64 (d.1.f0+1)∧wrap64 (d.1.f0+1)≤100000:=g.f0
   unfold wrap64 at g0
   omega
  exact ⟨⟨0,0,0,[]⟩,false,txF.imp (fun k T=>⟨vtN,sealN,_,_,T,hx,hl,.inr ⟨hc,rfl⟩,.inl ⟨n1,rfl,rfl⟩,rfl⟩),txF.imp (fun k T=>⟨vtN,sealN,_,T,hx,hl,.inl ⟨n2,rfl,rfl⟩,rfl⟩),⟨Nat.zero_le _,fun s hs=>by cases hs⟩,fun h=>by cases h⟩
theorem commit_ev (d:(S40×(List ByteArray×List S110×Int×List Int×List Int×List Int)×Int)) (h:OKt d):∃z x b,EvP (fun k=>SpecCommit k d z x b)∧EvP (fun k=>ImplCommit k d z x b)∧(z.1.length≤1048576∧z.2.length≤1048576)∧OKn x.f3:=by
 have hx:SmallM d.1:=⟨Nat.le_trans h.2.1.1 zq14,fun f hf=>Nat.le_trans (h.2.1.2 f hf) zq14⟩
 have hl:d.2.1.1.length≤2000000∧d.2.1.2.1.length≤2000000:=⟨Nat.le_trans h.2.2.1.1 zq14,Nat.le_trans h.2.2.1.2 zq14⟩
 have hM:=EvP.of (cloneM_ev d.1 h.2.1)
 have hD:=h.2.2.1
 have hB:=h.2.1
 obtain ⟨e,eS,eI,el⟩:=sync_both d.2.1.1 d.2.1.2.1 hl.1 hl.2
 cases hi:zyb d with
 |true=>
  exact ⟨(e,[]),d.1,true,(EvP.of eS).imp (fun k hk=>⟨hx,hl,.inl ⟨hi,⟨e,[],hk,rfl⟩,rfl,rfl⟩⟩),((EvP.of eI).and hM).imp (fun k hk=>⟨hk.2,hl,.inl ⟨hi,⟨e,[],hk.1,rfl⟩,rfl,rfl⟩⟩),⟨by rw [show e.length=_ from el];exact hD.1,Nat.zero_le _⟩,hB⟩
 |false=>
  obtain ⟨m,b,nS,nI,hm,hk⟩:=nm_ev2 d h
  cases b with
  |false=>
   exact ⟨(d.2.1.1,d.2.1.2.1),d.1,false,nS.imp (fun k hk=>⟨hx,hl,.inr (.inl ⟨hi,⟨m,hk⟩,rfl,rfl,rfl⟩)⟩),(nI.and hM).imp (fun k hk=>⟨hk.2,hl,.inr (.inl ⟨hi,⟨m,hk.1⟩,rfl,rfl,rfl⟩)⟩),hD,hB⟩
  |true=>
   have hmk:=hk rfl
   obtain ⟨t,ok,ht,-⟩:=mt_ex_ vtN sealN m
   have el2:e.length≤2000000:=by rw [show e.length=_ from el];exact hl.1
   have tl:t.size≤240:=by
    rcases ht with ⟨-,e,-⟩|⟨-,-,e,-⟩|⟨-,g,e,-⟩
    ·rw [e];exact Nat.zero_le _
    ·rw [e];exact Nat.zero_le _
    ·rw [e];exact g
   cases hd:DOk e [] with
   |false=>
    have dI:impl_DiskOk.f e []=some false:=by unfold impl_DiskOk.f;rw [hd]
    have dS:=diskOkS_ev e [] el2 (Nat.zero_le _)
    rw [hd] at dS
    refine ⟨(d.2.1.1,d.2.1.2.1),d.1,false,(nS.and ((EvP.of eS).and ((EvP.of dS).and txF))).imp (fun k hk=>⟨hx,hl,.inr (.inr ⟨hi,m,t,ok,e,[],(e,[]),false,hk.1,⟨vtN,sealN,hk.2.2.2,ht⟩,hk.2.1,hmk.f0,.inl ⟨rfl,⟨el2,Nat.zero_le _⟩,hk.2.2.1,rfl,rfl,rfl⟩⟩)⟩),(nI.and ((EvP.of eI).and (hM.and txF))).imp (fun k hk=>⟨hk.2.2.1,hl,.inr (.inr ⟨hi,m,t,ok,e,[],(e,[]),false,hk.1,⟨vtN,sealN,hk.2.2.2,ht⟩,hk.2.1,hmk.f0,.inl ⟨rfl,⟨el2,Nat.zero_le _⟩,dI,rfl,rfl,rfl⟩⟩)⟩),hD,hB⟩
   |true=>
    have h4:4≤(e.length:Int):=by
     have h2:=hd
     unfold DOk inB at h2
     simp only [Bool.and_eq_true,decide_eq_true_eq] at h2
     exact h2.1.1.1.1
    have hr:wrOk e [] (m.f0%2) t=true:=by
     unfold wrOk
     rw [hd,zYa zq5,show bigT t=false from decide_eq_false zq5]
     rfl
    have wI:=writeI_f (e,[]) (m.f0%2) t el2 (Nat.zero_le _)
    have wS:=writeS_ev (e,[]) (m.f0%2) t el2 (Nat.zero_le _)
    obtain ⟨y,hy⟩:∃y,y=wrD (e,[]) (m.f0%2) t:=⟨_,rfl⟩
    rw [←hy] at wI wS
    replace wI:impl_WritePage.f e [] (m.f0%2) t=some (y.1,y.2,true):=by rw [←hr];exact wI
    replace wS:Ev (fun k=>spec_WritePage.f k e [] (m.f0%2) t) (y.1,y.2,true):=by rw [←hr];exact wS
    have yl:y.1.length=e.length∧y.2.length≤1:=by
     rw [hy]
     unfold wrD
     split<;>exact ⟨rfl,by simp⟩
    obtain ⟨g,gS,gI,gl⟩:=sync_both y.1 y.2 (by rw [yl.1];exact el2) (by have:=yl.2;omega)
    refine ⟨(g,[]),m,true,(nS.and ((EvP.of eS).and ((EvP.of wS).and (txF.and (EvP.of gS))))).imp (fun k hk=>⟨hx,hl,.inr (.inr ⟨hi,m,t,ok,e,[],y,true,hk.1,⟨vtN,sealN,hk.2.2.2.1,ht⟩,hk.2.1,hmk.f0,.inr ⟨rfl,hk.2.2.1,⟨g,[],hk.2.2.2.2,rfl⟩,rfl,rfl⟩⟩)⟩),(nI.and ((EvP.of eI).and (hM.and (txF.and (EvP.of gI))))).imp (fun k hk=>⟨hk.2.2.1,hl,.inr (.inr ⟨hi,m,t,ok,e,[],y,true,hk.1,⟨vtN,sealN,hk.2.2.2.1,ht⟩,hk.2.1,hmk.f0,.inr ⟨rfl,wI,⟨g,[],hk.2.2.2.2,rfl⟩,rfl,rfl⟩⟩)⟩),⟨by rw [show g.length=_ from gl,yl.1,show e.length=_ from el];exact hD.1,Nat.zero_le _⟩,hm⟩
theorem cm_law (a:(S24×(List ByteArray×List S156×Int×List Int×List Int×List Int)×Int)) (ha:INtr a) {cs:List Value} (w:World) (h:kTxnL.K w a cs):
  Calls Tryz.prog 3 #[.agg cs.toArray] w fun e w'=>e= .returned (.bool true)∧Below w.heap.size w w':=by
 obtain ⟨r,⟨K0,er⟩,hr⟩:=sz_txn a ha
 rcases hr with hr|⟨hr,ho⟩
 ·exact cm_small0 K0 a r w h (er K0 (Nat.le_refl _)) hr
 ·obtain ⟨hto,hd⟩:=to_txn a ho
  obtain ⟨z,x,b,hsp,him,hz,hx⟩:=commit_ev (convT a) hd
  obtain ⟨d',mk,hmk,mk0⟩:=mark_txn (convT a) hd
  obtain ⟨z0,z1⟩:=z
  have hz0:z0.length≤1048576:=hz.1
  have hz1:z1.length≤1048576:=hz.2
  obtain ⟨p,q,m1,d1⟩:=mhD_ev z0 z1 1 zq5 zq5 zq5 zq5
  obtain ⟨u,hu⟩:∃u:Int,u=1+z0.length+2*z1.length:=⟨_,rfl⟩
  rw [←hu] at m1 d1
  have b2:x.f3.length≤1048576:=hx.1
  obtain ⟨fr,c2,c20,c21,m2,d2⟩:=mhF_ev x.f3 u zq5 zq5 hx
  have hm:Ev (fun k=>heldMeta_c_f k ⟨x.f0,x.f1,x.f2,fr⟩ u) (u+c2):=by
   show Ev (fun k=>laws_heldMeta.f k x.f0 x.f1 x.f2 fr u) (u+c2)
   unfold laws_heldMeta.f
   exact hld d2 zq5 (Ev.now _)
  have e1:EvP (fun k=>EqDisk k (z0,z1)):=EvP.of (eqD_ev z0 z1 zq5 zq5)
  obtain ⟨K,hK⟩:=(EvP.of ⟨K0,er⟩).and (hto.and (hsp.and (him.and (e1.and ((eq_meta x hx).and ((eq_txn (convT a) hd).and (hmk.and ((EvP.of m1).and ((EvP.of m2).and ((EvP.of d1).and (EvP.of hm)))))))))))
  obtain ⟨f1,f2,f3,f4,f5,f6,f7,f8,f9,f10,f11,f12⟩:=hK K (Nat.le_refl _)
  exact cm_great K a r (convT a) d' (z0,z1) (p,q) x ⟨x.f0,x.f1,x.f2,fr⟩ b mk u (u+c2) w h f1 f2 f3 f4 f5 f6 f7 f8 f9 f11 ⟨f10,rfl⟩ f12 hr mk0 zq5 zq5
end Go.Proofs.YtonhdiemjgdcnaaGreat.PFnExactGivePage
namespace Go.Proofs.YtonhdiemjgdcnaaGreat.Head
def w1:List Char:=[104,97,114,110,101,115,115].map Char.ofNat
def w2:List Char:=[101,50,50,49,48,53,100,49,55,48,55,51,99,54,52,48,52,56,54,52,54,99,53,100,99,54,50,50,100,101,54,51,98,48,100,97,48,52,100,101,99,101,101,101,100,51,57,55,54,57,53,98,48,50,102,102,102,56,53,100,53,53,97,102].map Char.ofNat
def w3:List Char:=[99,117,116].map Char.ofNat
def w4:List Char:=[97,116,32,108,111,111,112,46,101,120,97,109,112,108,101,47,103,48,48,50,52,48,47,108,97,119,115,46,70,110,69,120,97,99,116,67,111,109,109,105,116,32,108,111,111,112,46,101,120,97,109,112,108,101,47,103,48,48,50,52,48,47,108,97,119,115,46,70,110,69,120,97,99,116,67,111,109,109,105,116,67,117,116,32,108,111,111,112,46,101,120,97,109,112,108,101,47,103,48,48,50,52,48,47,108,97,119,115,46,70,110,69,120,97,99,116,69,110,100,87,114,105,116,101].map Char.ofNat
def blank:Char:=Char.ofNat 32
theorem cut_at (a r:List Char) (h:a.all (· !=blank)=true):wordsSigns (a++blank::r)=a::wordsSigns r:=by
 induction a with
 |nil=>rfl
 |cons c a ih=>
  simp only [List.all_cons,Bool.and_eq_true,bne_iff_ne] at h
  have e:=ih h.2
  have hc:∀s,wordsSigns (c::s)=match wordsSigns s with|w::ws=>(c::w)::ws|[]=>[[c]]:=by
   intro s
   conv=>lhs;unfold wordsSigns
   split
   ·rename_i h0;cases h0
   ·rename_i h0
    injection h0 with h1 h2
    exact absurd h1 h.1
   ·rename_i h0 _ h1
    injection h1 with h2 h3
    subst h2
    subst h3
    rfl
  show wordsSigns (c::(a++blank::r))=_
  rw [hc,e]
theorem io:Tryz.prog.initOrder=String.ofList (w1++blank::(w2++blank::(w3++blank::w4))):=by kernel_rfl
theorem words:wordsSigns Tryz.prog.initOrder.toList=w1::w2::w3::wordsSigns w4:=by
 rw [io,String.toList_ofList,cut_at _ _ zq7,cut_at _ _ zq7,cut_at _ _ zq7]
theorem m0:((w1== "harness".toList||w1== "ownmain".toList)&&isSumSigns w2)=true:=by kernel_rfl
theorem m1:(w3== "gc".toList)=false:=by kernel_rfl
theorem m2:(w3== "spec".toList)=false:=by kernel_rfl
theorem m3:(w3== "cut".toList)=true:=by kernel_rfl
theorem m4:(w3== "carried".toList)=false:=by kernel_rfl
theorem m5 (R:List (List Char)):((w3::R).head?==some "cut".toList)=true:=by kernel_rfl
theorem m5c (R:List (List Char)):((w3::R).head?==some "carried".toList)=false:=by kernel_rfl
theorem m6 (R:List (List Char)):stripLifts liftWords (w3::R)=([],w3::R):=by kernel_rfl
theorem m7:Tryz.prog.laysLater=false:=by kernel_rfl
theorem m8:Tryz.prog.bearsReflect=false:=by kernel_rfl
theorem m9:Tryz.prog.doorFits []=true:=by kernel_rfl
theorem behind (R:List (List Char)):behindMainWord (w1::w2::R)=R:=by
 show (if ((w1== "harness".toList||w1== "ownmain".toList)&&isSumSigns w2)=true then R else w1::w2::R)=R
 rw [if_pos m0]
theorem beh:∃R,behindMainWord (wordsSigns Tryz.prog.initOrder.toList)=w3::R:=⟨wordsSigns w4,by rw [words,behind]⟩
theorem lifts_of (P:Program) (R:List (List Char)) (h:behindMainWord (wordsSigns P.initOrder.toList)=w3::R):(false==P.liftsFinal)=true:=by
 unfold Program.liftsFinal Program.headLifts
 rw [h]
 simp only [m5,m5c,m6]
 rfl
theorem may_of (P:Program) (R:List (List Char)) (h:behindMainWord (wordsSigns P.initOrder.toList)=w3::R) (h7:P.laysLater=false) (h8:P.bearsReflect=false) (h9:P.doorFits []=true):P.mayEnter=true:=by
 unfold Program.mayEnter
 rw [h]
 simp only [m1,m2,m4,m5,m6,h7,h8,h9]
 rfl
theorem made_of (P:Program) (R:List (List Char)) (h:behindMainWord (wordsSigns P.initOrder.toList)=w3::R):(P.make==some Make.cut)=true:=by
 unfold Program.make Program.headLifts
 rw [h]
 simp only [m1,m2,m3]
 rfl
theorem lifts:(false==Tryz.prog.liftsFinal)=true:=by
 obtain ⟨R,h⟩:=beh
 exact lifts_of _ R h
theorem may:Tryz.prog.mayEnter=true:=by
 obtain ⟨R,h⟩:=beh
 exact may_of _ R h m7 m8 m9
theorem made:(Tryz.prog.make==some Make.cut)=true:=by
 obtain ⟨R,h⟩:=beh
 exact made_of _ R h
theorem laid:laidOutB Tryz.prog=true:=by kernel_rfl
theorem maps:mapsRowed Tryz.prog=true:=by kernel_rfl
theorem heard:Tryz.prog.stopsHeard=true:=by kernel_rfl
theorem plain:(true==Tryz.prog.plainKeys)=true:=by kernel_rfl
end Go.Proofs.YtonhdiemjgdcnaaGreat.Head
