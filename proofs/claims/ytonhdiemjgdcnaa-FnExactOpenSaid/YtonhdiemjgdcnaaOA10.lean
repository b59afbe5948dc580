import Derived.Test.YtonhdiemjgdcnaaOA9
set_option maxHeartbeats 64000000
set_option maxRecDepth 100000
set_option linter.unusedVariables false
set_option linter.unusedSimpArgs false
namespace Go.Proofs
theorem zq68{P:Prop}(h:P:=by have o:=O.1;simp only [Off2,Off2.Off2A,List.set_cons_zero,List.set_cons_succ,Fct.box,Fct.made];and_intros<;>first|trivial|omega):P:=h
end Go.Proofs
namespace Go.Proofs.Ytonhdiemjgdcnaa.PFnExactGivePage
open Go.RowKit Go.Proofs.YtonhdiemjgdcnaaW.PrintWords Go.Proofs.YtonhdiemjgdcnaaW.PrintLast Go.Proofs.YtonhdiemjgdcnaaW.PrintMore
attribute [local go_sem] zV zU zia zha zP zN zS zT
theorem Env.atTop {w0 W:World} {top t:Nat} {fs:List Fct} (E:Env w0 W top fs) (h:t=top):Env w0 W t fs:=by subst h;exact E
def ToDisk (k:Nat) (a:(List ByteArray×List S140)) (z:(List ByteArray×List S135)):Prop:=laws_toDisk.f k a.1 a.2=some (z.1,z.2)
theorem toDisk2_c (k:Nat) (a:(List ByteArray×List S140)) (z:(List ByteArray×List S135)) {cs:List Value} (w:World) (h:kDiskL.K w a cs) (hf:ToDisk k a z):Calls Try.prog 24 #[.agg cs.toArray] w fun e w'=>∃ds:List Value,e= .returned (.agg ds.toArray)∧kDisk.M w' w.heap.size (Fr w w') z ds∧Below w.heap.size w w':=toDisk_c k a z w h hf
def EqDisk (k:Nat) (z:(List ByteArray×List S135)):Prop:=eqDisk_c_f k z z=some true
theorem eqDisk2_c (k:Nat) (z:(List ByteArray×List S135)) {cs ds:List Value} (w:World) (h:kDisk.K w z cs) (h2:kDisk.K w z ds) (hf:EqDisk k z):Calls Try.prog 27 #[.agg cs.toArray,.agg ds.toArray] w fun e w'=>e= .returned (.bool true)∧Below w.heap.size w w':=eqDisk_c k z z true w h h2 hf
def MarkDisk (k:Nat) (z:(List ByteArray×List S135)) (a:Int) (z':(List ByteArray×List S135)) (r:Int):Prop:=laws_markDisk.f k z.1 z.2 a=some (r,z'.1,z'.2)
theorem markDisk_c (k:Nat) (z:(List ByteArray×List S135)) (a:Int) (z':(List ByteArray×List S135)) (r:Int) (ok:Nat→Prop) {cs:List Value} (w0 w:World) (hB:Below w0.heap.size w0 w) (hk:∀k,ok k→k<w.heap.size) (h:kDisk.M w w0.heap.size ok z cs) (hf:MarkDisk k z a z' r):
  Calls Try.prog 28 #[.agg cs.toArray,.int .i64 a] w fun e w'=>e= .returned (.int .i64 r)∧kDisk.M w' w0.heap.size ok z' cs∧Below w0.heap.size w0 w'∧Kept w w' ok:=by
 obtain ⟨l0,l1⟩:=z
 obtain ⟨q0,q1⟩:=z'
 exact markDisk_o k l0 l1 a r q0 q1 ok w0 w hB h hf
def ImplOpn (k:Nat) (d:(List ByteArray×List S135)) (z:((List ByteArray×List S135)×S53×List S118×(S53×(List ByteArray×List S135×Int×List Int×List Int×List Int)×Int)×Bool×Bool)) (ok:Bool):Prop:=∃(m:S53) (b:Bool),ImplBest k d m b∧((b=false∧z=(([],[]),(⟨0,0,0,[]⟩:S53),[],((⟨0,0,0,[]⟩:S53),([],[],0,[],[],[]),0),false,false)∧ok=false)∨(b=true∧impl_DiskOk.f d.1 d.2=some false∧z=(([],[]),(⟨0,0,0,[]⟩:S53),[],((⟨0,0,0,[]⟩:S53),([],[],0,[],[],[]),0),false,false)∧ok=false)∨(b=true∧impl_DiskOk.f d.1 d.2=some true∧(d.1.length≤2000000∧d.2.length≤2000000)∧z=(d,m,[],((⟨0,0,0,[]⟩:S53),([],[],0,[],[],[]),0),false,false)∧ok=true))
theorem implOpn_c (k:Nat) (d:(List ByteArray×List S135)) (z:((List ByteArray×List S135)×S53×List S118×(S53×(List ByteArray×List S135×Int×List Int×List Int×List Int)×Int)×Bool×Bool)) (ok:Bool) {cs:List Value} (w:World) (h:kDisk.K w d cs) (hf:ImplOpn k d z ok):
  Calls Try.prog 25 #[.agg cs.toArray] w fun e w'=>∃ds:List Value,e= .returned (.tuple #[.agg ds.toArray,.bool ok])∧kStore.M w' w.heap.size (Fr w w') z ds∧Below w.heap.size w w':=by
 obtain ⟨l0,l1⟩:=d
 obtain ⟨m,b,hb,⟨rfl,rfl,rfl⟩|⟨rfl,hd,rfl,rfl⟩|⟨rfl,hd,hl,rfl,rfl⟩⟩:=hf
 ·exact implOpen_n k l0 l1 m w h hb
 ·exact implOpen_d k l0 l1 m w h hb hd
 ·exact implOpen_t k l0 l1 m w h hb hd hl
def SpecOpn (k:Nat) (d:(List ByteArray×List S135)) (z:((List ByteArray×List S135)×S53×List S118×(S53×(List ByteArray×List S135×Int×List Int×List Int×List Int)×Int)×Bool×Bool)) (ok:Bool):Prop:=∃(m:S53) (b:Bool),SpecBest k d m b∧((b=false∧z=(([],[]),(⟨0,0,0,[]⟩:S53),[],((⟨0,0,0,[]⟩:S53),([],[],0,[],[],[]),0),false,false)∧ok=false)∨(b=true∧spec_DiskOk.f k d.1 d.2=some false∧z=(([],[]),(⟨0,0,0,[]⟩:S53),[],((⟨0,0,0,[]⟩:S53),([],[],0,[],[],[]),0),false,false)∧ok=false)∨(b=true∧spec_DiskOk.f k d.1 d.2=some true∧(d.1.length≤2000000∧d.2.length≤2000000)∧z=(d,m,[],((⟨0,0,0,[]⟩:S53),([],[],0,[],[],[]),0),false,false)∧ok=true))
theorem specOpn_c (k:Nat) (d:(List ByteArray×List S135)) (z:((List ByteArray×List S135)×S53×List S118×(S53×(List ByteArray×List S135×Int×List Int×List Int×List Int)×Int)×Bool×Bool)) (ok:Bool) {cs:List Value} (w:World) (h:kDisk.K w d cs) (hf:SpecOpn k d z ok):
  Calls Try.prog 23 #[.agg cs.toArray] w fun e w'=>∃ds:List Value,e= .returned (.tuple #[.agg ds.toArray,.bool ok])∧kStore.M w' w.heap.size (Fr w w') z ds∧Below w.heap.size w w':=by
 obtain ⟨l0,l1⟩:=d
 obtain ⟨m,b,hb,⟨rfl,rfl,rfl⟩|⟨rfl,hd,rfl,rfl⟩|⟨rfl,hd,hl,rfl,rfl⟩⟩:=hf
 ·exact specOpen_n k l0 l1 m w h hb
 ·exact specOpen_d k l0 l1 m w h hb hd
 ·exact specOpen_t k l0 l1 m w h hb hd hl
theorem op_small0 (k:Nat) (a0:(List ByteArray×List S140)) (r0:Int) {cs0:List Value} (w:World) (h0:kDiskL.K w a0 cs0) (hs0:szDisk_c_f k a0 1048576=some r0) (hr0:r0<0):
  Calls Try.prog 5 #[.agg cs0.toArray] w fun e w'=>e= .returned (.bool true)∧Below w.heap.size w w':=by
 have KA0:=zz h0;have LA0:=zz (show cs0.length=2 from Kd.K_len _ h0);clear h0
 have HS0:=zz hs0;clear hs0
 replace hr0:decide (r0<0)=true:=z6 hr0
 have O:=zz (z2a w.heap.size)
 have E:=zz (Env.start w)
 go_enter Try.func5,Try.ntmps5
 go_wp2_with (first|((with_reducible refine zg (N:=14) rfl ?_);replace O:=zz (And.intro E.1.le O.1);replace E:=zz (E.1.alloc cs0 25 (g:=w.heap.size) rfl);refine zl rfl 25 _ rfl w.heap.size 0 [] cs0 [] _ rfl (E.1.box 0 rfl) zq14 (rfl) Try.underlying25 rfl (zq30 LA0.1) ?_))
 ((with_reducible refine (szDisk_c k a0 1048576 r0 _ (E.1.K KA0.1) HS0.1).mono ?_);rintro e w1_ ⟨rfl,hb⟩)
 replace E:=zz (E.1.call hb);clear hb
 go_wp2_with fail
 go_ret
 exact ⟨rfl,E.1.below⟩
def op_great_T10:Bool×List (List Nat×List Nat):=(true,[([],[]),([],[]),([1],[1]),([0,2,2],[0,2]),([3],[3])])
def op_great_B10:List Nat:=[0,0,2,7,15]
theorem op_great_ok10_0:regT (zgb Try.f5 10) op_great_T10 op_great_B10 [] (.t 0 (.t 1 (.e 2 (.e 3 (.p 4 .d)))))=true:=zq8
theorem op_great (k:Nat) (a0:(List ByteArray×List S140)) (r0:Int) (d0 d1:(List ByteArray×List S135)) (z0 z2:((List ByteArray×List S135)×S53×List S118×(S53×(List ByteArray×List S135×Int×List Int×List Int×List Int)×Int)×Bool×Bool)) (z1:Bool) (mk0:Int) (mg0:Int) {cs0:List Value} (w:World) (h0:kDiskL.K w a0 cs0) (hs0:szDisk_c_f k a0 1048576=some r0) (ht0:ToDisk k a0 d0) (hsp:SpecOpn k d0 z0 z1) (him:ImplOpn k d0 z0 z1) (heq0:EqStore k z0) (hex0:EqDisk k d0) (hmk0:MarkDisk k d0 1 d1 mk0) (hmg0:MarkStore k z0 1 z2 mg0) (hhd0:HeldStore k z2 1 mg0) (hr0:¬r0<0) (hm:¬mk0<0) (hg0:¬mg0<0):
  Calls Try.prog 5 #[.agg cs0.toArray] w fun e w'=>e= .returned (.bool true)∧Below w.heap.size w w':=by
 have KA0:=zz h0;have LA0:=zz (show cs0.length=2 from Kd.K_len _ h0);clear h0
 have HS0:=zz hs0;clear hs0
 have HT0:=zz ht0;clear ht0
 have HSP:=zz hsp;clear hsp
 have HIM:=zz him;clear him
 have HEQ0:=zz heq0;clear heq0
 have HEX0:=zz hex0;clear hex0
 have HMK0:=zz hmk0;clear hmk0
 have HMG0:=zz hmg0;clear hmg0
 have HHD0:=zz hhd0;clear hhd0
 replace hr0:decide (r0<0)=false:=z7 hr0
 replace hm:decide (mk0<0)=false:=z7 hm
 replace hg0:decide (mg0<0)=false:=z7 hg0
 have O:=zz (z2a w.heap.size)
 have E:=zz (Env.start w)
 go_enter Try.func5,Try.ntmps5
 go_wp2_with (first|((with_reducible refine zg (N:=14) rfl ?_);replace O:=zz (And.intro E.1.le O.1);replace E:=zz (E.1.alloc cs0 25 (g:=w.heap.size) rfl);refine zl rfl 25 _ rfl w.heap.size 0 [] cs0 [] _ rfl (E.1.box 0 rfl) zq14 (rfl) Try.underlying25 rfl (zq30 LA0.1) ?_))
 ((with_reducible refine (szDisk_c k a0 1048576 r0 _ (E.1.K KA0.1) HS0.1).mono ?_);rintro e w1_ ⟨rfl,hb⟩)
 replace E:=zz (E.1.call hb);clear hb
 go_wp2_with (first|((with_reducible refine zg (N:=20) rfl ?_);refine zl rfl 25 _ rfl w.heap.size 0 [] cs0 [] _ rfl (E.1.box 0 rfl) zq14 (rfl) Try.underlying25 rfl (zq30 LA0.1) ?_))
 ((with_reducible refine (toDisk2_c k a0 d0 _ (E.1.K KA0.1) HT0.1).mono ?_);rintro e w2_ ⟨d3_,rfl,M0,hb⟩)
 have q:=E.1.made4 O.1 2 rfl M0 hb;clear O E M0 hb;obtain ⟨n4_,m5_,Ld3_,Od3_,O,E⟩:=q
 go_wp2_with fail
 ((with_reducible refine (specOpn_c k d0 z0 z1 _ (E.1.mk_ 0 rfl) HSP.1).mono ?_);rintro e w5 ⟨d2,rfl,M1,hb⟩)
 have q:=E.1.made4 O.1 20 rfl M1 hb;clear O E M1 hb;obtain ⟨n8_,m9_,L0,Q0,O,E⟩:=q
 go_wp2_with (first|((with_reducible refine zI (t:=58) (p:=4) rfl ?_);replace O:=zz (And.intro E.1.le O.1);replace E:=zz (E.1.alloc Z58 58 (g:=w5.heap.size) rfl);refine zK rfl 58 _ _ rfl rfl w5.heap.size 0 d2 [] Z58 [] rfl rfl (E.1.box 0 rfl) zq14 (rfl) (by rw [L0.1];rfl) (zq30 L0.1) Q0.1 ?_;intro W10_ hp hn;replace E:=E.1.put2 0 hp hn zq23;clear hp hn)|((with_reducible refine zg (N:=25) rfl ?_);refine zl rfl 25 _ rfl w.heap.size 0 [] cs0 [] _ rfl (E.1.box 3 rfl) zq14 (rfl) Try.underlying25 rfl (zq30 LA0.1) ?_))
 ((with_reducible refine (toDisk2_c k a0 d0 _ (E.1.K KA0.1) HT0.1).mono ?_);rintro e w6 ⟨d3,rfl,M2,hb⟩)
 have q:=E.1.made4 O.1 2 rfl M2 hb;clear O E M2 hb;obtain ⟨n13_,m14_,L1,Q1,O,E⟩:=q
 go_wp2_with (first|((with_reducible refine zI (t:=32) (p:=6) rfl ?_);replace O:=zz (And.intro E.1.le O.1);replace E:=zz (E.1.alloc [.slice none 0 0,.slice none 0 0] 32 (g:=w6.heap.size) rfl);refine zK rfl 32 _ _ rfl rfl w6.heap.size 0 d3 [] [.slice none 0 0,.slice none 0 0] [] rfl rfl (E.1.box 0 rfl) zq14 (rfl) (by rw [L1.1];rfl) (zq30 L1.1) Q1.1 ?_;intro W15_ hp hn;replace E:=E.1.put2 0 hp hn zq23;clear hp hn)|((with_reducible refine zg (N:=28) rfl ?_);refine zl rfl 32 _ rfl w6.heap.size 0 [] d3 [] _ rfl (E.1.box 0 rfl) zq14 (rfl) Try.underlying32 rfl (zq30 L1.1) ?_))
 ((with_reducible refine (implOpn_c k d0 z0 z1 _ (E.1.mk_ 1 rfl) HIM.1).mono ?_);rintro e w7 ⟨d4,rfl,M3,hb⟩)
 have q:=E.1.made4 O.1 20 rfl M3 hb;clear O E M3 hb;obtain ⟨n18_,m19_,L2,Q2,O,E⟩:=q
 go_wp2_with (first|((with_reducible refine zI (t:=58) (p:=7) rfl ?_);replace O:=zz (And.intro E.1.le O.1);replace E:=zz (E.1.alloc Z58 58 (g:=w7.heap.size) rfl);refine zK rfl 58 _ _ rfl rfl w7.heap.size 0 d4 [] Z58 [] rfl rfl (E.1.box 0 rfl) zq14 (rfl) (by rw [L2.1];rfl) (zq30 L2.1) Q2.1 ?_;intro W20_ hp hn;replace E:=E.1.put2 0 hp hn zq23;clear hp hn)|((with_reducible refine zg (N:=32) rfl ?_);refine zl rfl 58 _ rfl w7.heap.size 0 [] d4 [] _ rfl (E.1.box 0 rfl) zq14 (rfl) Try.underlying58 rfl (zq30 L2.1) ?_)|((with_reducible refine zg (N:=33) rfl ?_);refine zl rfl 58 _ rfl w5.heap.size 0 [] d2 [] _ rfl (E.1.box 4 rfl) zq14 (rfl) Try.underlying58 rfl (zq30 L0.1) ?_))
 ((with_reducible refine (eqStore_c k z0 _ (E.1.mk_ 1 rfl) (E.1.mk_ 5 rfl) HEQ0.1).mono ?_);rintro e w21_ ⟨rfl,hb⟩)
 replace E:=zz (E.1.call hb);clear hb
 go_upto_region 10 with (fail)
 replace E:=zz E.1.drew
 refine tre_start op_great_ok10_0 (S:=fun w'=>w'.heap[w6.heap.size]?=some (.cells (([]++(d3++[])):List Value).toArray 32 (0,0))∧w'.heap[w.heap.size]?=some (.cells (cs0:List Value).toArray 25 (0,0))∧True) zq8 (fun _ _ _ _ h=>h) ⟨(E.1.box 2 rfl),(E.1.box 7 rfl),trivial⟩ (fun hHeld=> ?_)
 generalize hq:World.drew _=w22_ at hHeld ⊢;replace E:=E.1.to hq;clear hq
 refine zBa (a':= ?_) rfl rfl zq19 32 _ rfl w6.heap.size 0 [] d3 [] _ rfl (fun w' hs=>hs.1) zq14 (rfl) Try.underlying32 rfl (zq30 L1.1) zq21 ?_
 refine zBa (a':= ?_) rfl rfl zq19 25 _ rfl w.heap.size 0 [] cs0 [] _ rfl (fun w' hs=>hs.2.1) zq14 (rfl) Try.underlying25 rfl (zq30 LA0.1) zq21 ?_
 refine tre_e rfl (ev1_call rfl Try.func24 zq8 rfl #[.agg cs0.toArray] zq19 rfl zq20 ?_)
 with_reducible refine (toDisk2_c k a0 d0 _ (E.1.K KA0.1) HT0.1).mono ?_
 rintro e wr10o2_ ⟨dr10o2__,rfl,Mdr10o2__,hb⟩
 have q:=E.1.made4 O.1 2 rfl Mdr10o2__ hb;clear O E Mdr10o2__ hb;obtain ⟨nr10o2___,mr10o2____,Ldr10o2__,Odr10o2__,O,E⟩:=q
 refine ⟨_,rfl,⟨(E.1.box 3 rfl),(E.1.box 8 rfl),trivial⟩,(fun hHeld=> ?_)⟩
 refine zWa (a':= ?_) zq21 ?_
 refine tre_e rfl (ev1_call rfl Try.func27 zq8 rfl #[.agg d3.toArray,.agg dr10o2__.toArray] zq19 rfl zq20 ?_)
 with_reducible refine (eqDisk2_c k d0 _ (E.1.mk_ 4 rfl) (E.1.mk_ 0 rfl) HEX0.1).mono ?_
 rintro e wr10o3_ ⟨rfl,hb⟩
 replace E:=zz (E.1.call hb);clear hb
 refine ⟨_,rfl,⟨(E.1.box 3 rfl),(E.1.box 8 rfl),trivial⟩,(fun hHeld=> ?_)⟩
 refine zWa (a':= ?_) zq21 ?_
 (refine tre_p (v:= ?_) (a':= ?_) rfl rfl (Or.inl ⟨zq19,zq5⟩) zq21 ?_)
 refine tre_done ?_
 clear hHeld
 obtain ⟨t10_,ht⟩:∃t,t=mr10o2____:=⟨_,rfl⟩
 replace E:=zz (Env.atTop E.1 ht)
 replace O:=zz (And.intro ht (And.intro E.1.le O.1));clear ht
 go_wp2_with (first|((with_reducible refine zg (N:=46) rfl ?_);refine zl rfl 32 _ rfl w6.heap.size 0 [] d3 [] _ rfl (E.1.box 3 rfl) zq14 (rfl) Try.underlying32 rfl (zq30 L1.1) ?_))
 ((with_reducible refine (markDisk_c k d0 1 d1 mk0 _ w _ E.1.below (E.1.mbound 4 rfl) (E.1.made 4 rfl) HMK0.1).mono ?_);rintro e w23_ ⟨rfl,M,hB,hK⟩)
 replace E:=zz (E.1.marked 4 rfl M hB hK zq68);clear M hB hK
 go_wp2_with (first|((with_reducible refine zg (N:=52) rfl ?_);refine zna zq19 58 _ rfl w7.heap.size 0 [] d4 [] _ rfl (E.1.box 1 rfl) zq14 (rfl) Try.underlying58 rfl (zq30 L2.1) ?_)|((with_reducible refine zg (N:=53) rfl ?_);refine zna zq19 58 _ rfl w5.heap.size 0 [] d2 [] _ rfl (E.1.box 5 rfl) zq14 (rfl) Try.underlying58 rfl (zq30 L0.1) ?_))
 ((with_reducible refine (eqStore_c k z0 _ (E.1.mk_ 2 rfl) (E.1.mk_ 6 rfl) HEQ0.1).mono ?_);rintro e w24_ ⟨rfl,hb⟩)
 replace E:=zz (E.1.call hb);clear hb
 go_wp2_with (first|((with_reducible refine zg (N:=62) rfl ?_);refine zl rfl 58 _ rfl w7.heap.size 0 [] d4 [] _ rfl (E.1.box 1 rfl) zq14 (rfl) Try.underlying58 rfl (zq30 L2.1) ?_))
 ((with_reducible refine (markStore_c k z0 1 z2 mg0 _ w _ E.1.below (E.1.mbound 2 rfl) (E.1.made 2 rfl) HMG0.1).mono ?_);rintro e w25_ ⟨rfl,M,hB,hK⟩)
 replace E:=zz (E.1.marked 2 rfl M hB hK zq68);clear M hB hK
 go_wp2_with (first|((with_reducible refine zg (N:=65) rfl ?_);refine zl rfl 58 _ rfl w7.heap.size 0 [] d4 [] _ rfl (E.1.box 1 rfl) zq14 (rfl) Try.underlying58 rfl (zq30 L2.1) ?_))
 ((with_reducible refine (heldStore_c k z2 1 mg0 _ (E.1.mk_ 2 rfl) HHD0.1).mono ?_);rintro e w26_ ⟨rfl,hb⟩)
 replace E:=zz (E.1.call hb);clear hb
 go_wp2_with (first|((with_reducible refine zg (N:=74) rfl ?_);refine zl rfl 25 _ rfl w.heap.size 0 [] cs0 [] _ rfl (E.1.box 8 rfl) zq14 (rfl) Try.underlying25 rfl (zq30 LA0.1) ?_))
 ((with_reducible refine (toDisk2_c k a0 d0 _ (E.1.K KA0.1) HT0.1).mono ?_);rintro e w27_ ⟨d28_,rfl,M4,hb⟩)
 have q:=E.1.made4 O.1 2 rfl M4 hb;clear O E M4 hb;obtain ⟨n29_,m30_,Ld28_,Od28_,O,E⟩:=q
 go_wp2_with fail
 ((with_reducible refine (implOpn_c k d0 z0 z1 _ (E.1.mk_ 0 rfl) HIM.1).mono ?_);rintro e w8 ⟨d5,rfl,M5,hb⟩)
 have q:=E.1.made4 O.1 20 rfl M5 hb;clear O E M5 hb;obtain ⟨n33_,m34_,L3,Q3,O,E⟩:=q
 go_wp2_with (first|((with_reducible refine zI (t:=58) (p:=12) rfl ?_);replace O:=zz (And.intro E.1.le O.1);replace E:=zz (E.1.alloc Z58 58 (g:=w8.heap.size) rfl);refine zK rfl 58 _ _ rfl rfl w8.heap.size 0 d5 [] Z58 [] rfl rfl (E.1.box 0 rfl) zq14 (rfl) (by rw [L3.1];rfl) (zq30 L3.1) Q3.1 ?_;intro W35_ hp hn;replace E:=E.1.put2 0 hp hn zq23;clear hp hn)|((with_reducible refine zg (N:=79) rfl ?_);refine zl rfl 58 _ rfl w8.heap.size 0 [] d5 [] _ rfl (E.1.box 0 rfl) zq14 (rfl) Try.underlying58 rfl (zq30 L3.1) ?_)|((with_reducible refine zg (N:=80) rfl ?_);refine zl rfl 58 _ rfl w5.heap.size 0 [] d2 [] _ rfl (E.1.box 8 rfl) zq14 (rfl) Try.underlying58 rfl (zq30 L0.1) ?_))
 ((with_reducible refine (eqStore_c k z0 _ (E.1.mk_ 1 rfl) (E.1.mk_ 9 rfl) HEQ0.1).mono ?_);rintro e w36_ ⟨rfl,hb⟩)
 replace E:=zz (E.1.call hb);clear hb
 go_wp2_with (first|((with_reducible refine zg (N:=88) rfl ?_);refine zl rfl 58 _ rfl w7.heap.size 0 [] d4 [] _ rfl (E.1.box 4 rfl) zq14 (rfl) Try.underlying58 rfl (zq30 L2.1) ?_))
 ((with_reducible refine (heldStore_c k z2 1 mg0 _ (E.1.mk_ 5 rfl) HHD0.1).mono ?_);rintro e w37_ ⟨rfl,hb⟩)
 replace E:=zz (E.1.call hb);clear hb
 go_wp2_with fail
 go_ret
 exact ⟨rfl,E.1.below⟩
theorem page_go (pages:List ByteArray) (late:List S135) (h1:∀s∈pages,s.size≤1048576) (h2:∀s∈late,s.f1.size≤1048576) (page:Int) (hp0:0≤page) (hp1:page<(pages.length:Int)) (hl:late.length≤1048576):
  ∀n:Nat,n≤late.length→∃s:ByteArray,impl_ReadPage.l0 (n+1) page ((n:Int)-1) pages late=some s∧spec_ReadPage.l0 (n+1) page ((n:Int)-1) pages late=some s∧s.size≤1048576:=by
 intro n
 induction n with
 |zero=>
  intro _
  refine ⟨zkb ByteArray.empty pages page,?_,?_,?_⟩
  ·rw [impl_ReadPage.l0,if_neg zq3,if_pos hp0,if_pos hp1]
  ·rw [spec_ReadPage.l0,if_neg zq3,if_pos hp0,if_pos hp1]
  ·obtain ⟨p,rfl⟩:∃p:Nat,page=(p:Int):=⟨page.toNat,zq3⟩
   rw [rdOf_nat _ _ _ zq3]
   exact h1 _ (List.getElem_mem _)
 |succ n ih=>
  intro hn
  have e:(((n+1:Nat):Int)-1)=(n:Int):=zq3
  have hlt:n<late.length:=zq3
  have ei:impl_ReadPage.l0 (n+1+1) page (n:Int) pages late=if late[n].f0=page then some late[n].f1 else impl_ReadPage.l0 (n+1) page ((n:Int)-1) pages late:=by
   rw [impl_ReadPage.l0,if_pos zq3,if_pos zq3,if_pos zq3,rd135 _ _ hlt,zB zq3 zq3]
  have es:spec_ReadPage.l0 (n+1+1) page (n:Int) pages late=if late[n].f0=page then some late[n].f1 else spec_ReadPage.l0 (n+1) page ((n:Int)-1) pages late:=by
   rw [spec_ReadPage.l0,if_pos zq3,if_pos zq3,if_pos zq3,rd135 _ _ hlt,zB zq3 zq3]
  rw [e,ei,es]
  by_cases hx:late[n].f0=page
  ·rw [if_pos hx,if_pos hx]
   exact ⟨_,rfl,rfl,h2 _ (List.getElem_mem _)⟩
  ·rw [if_neg hx,if_neg hx]
   exact ih zq3
theorem page_both (pages:List ByteArray) (late:List S135) (h0:pages.length≤1048576) (h1:∀s∈pages,s.size≤1048576) (h2:∀s∈late,s.f1.size≤1048576) (hl:late.length≤1048576) (page:Int):∃s:ByteArray,(∃k,impl_ReadPage.f k pages late page=some s)∧(∃k,spec_ReadPage.f k pages late page=some s)∧s.size≤1048576:=by
 have hw:wrap64 ((pages.length:Int)-1)=(pages.length:Int)-1:=zB zq3 zq3
 have hv:wrap64 ((late.length:Int)-1)=(late.length:Int)-1:=zB zq3 zq3
 by_cases hin:0≤page∧page≤(pages.length:Int)-1
 ·obtain ⟨s,e1,e2,e3⟩:=page_go pages late h1 h2 page hin.1 zq3 hl late.length (z2a _)
  refine ⟨s,⟨late.length+1,?_⟩,⟨late.length+1,?_⟩,e3⟩
  ·unfold impl_ReadPage.f impl_isPage.f impl_in.f
   rw [hw,hv,if_pos hin.1,decide_eq_true hin.2,Option.bind_some,Option.bind_some,if_pos rfl]
   exact e1
  ·unfold spec_ReadPage.f spec_l01In.f
   rw [hw,hv,if_pos hin.1,decide_eq_true hin.2,Option.bind_some,if_pos rfl]
   exact e2
 ·have hno:∀b:Option Bool,b=(if page≥0 then (some (decide (page≤(pages.length:Int)-1))) else (some false))→b=some false:=by
   rintro b rfl
   split
   ·rw [decide_eq_false zq3]
   ·rfl
  refine ⟨⟨#[]⟩,⟨0,?_⟩,⟨0,?_⟩,zq32⟩
  ·unfold impl_ReadPage.f impl_isPage.f
   rw [hw,hno (impl_in.f page 0 ((pages.length:Int)-1)) rfl]
   rfl
  ·unfold spec_ReadPage.f
   rw [hw,hno (spec_l01In.f page 0 ((pages.length:Int)-1)) rfl]
   rfl
theorem best_ev (p:List ByteArray) (q:List S135) (h0:p.length≤1048576) (h1:∀s∈p,s.size≤1048576) (h2:∀s∈q,s.f1.size≤1048576) (hl:q.length≤1048576):∃m b,EvP (fun k=>SpecBest k (p,q) m b)∧EvP (fun k=>ImplBest k (p,q) m b)∧OKn m.f3:=by
 obtain ⟨s0,⟨k1,e1⟩,⟨k2,e2⟩,z0⟩:=page_both p q h0 h1 h2 hl 0
 obtain ⟨s1,⟨k3,e3⟩,⟨k4,e4⟩,z1⟩:=page_both p q h0 h1 h2 hl 1
 obtain ⟨m0,o0,i0,j0,g0⟩:=meta_both s0 zq3
 obtain ⟨m1,o1,i1,j1,g1⟩:=meta_both s1 zq3
 have ok:∀m:S53,(MOk m∨m=⟨0,0,0,[]⟩)→OKn m.f3:=by
  rintro m (h|rfl)
  ·exact h.okn
  ·exact ⟨z7a _,fun s hs=>by cases hs⟩
 obtain ⟨m,b,hc,hm⟩:∃m b,((o0=true∧o1=false∧m0=m∧b=true)∨(o0=true∧o1=true∧m0.f0≥m1.f0∧m0=m∧b=true)∨(o0=true∧o1=true∧¬m0.f0≥m1.f0∧m1=m∧b=true)∨(o0=false∧o1=true∧m1=m∧b=true)∨(o0=false∧o1=false∧m=⟨0,0,0,[]⟩∧b=false))∧OKn m.f3:=by
  cases o0 with
  |true=>
   cases o1 with
   |false=>exact ⟨m0,true,.inl ⟨rfl,rfl,rfl,rfl⟩,ok _ g0⟩
   |true=>
    by_cases h:m0.f0≥m1.f0
    ·exact ⟨m0,true,.inr (.inl ⟨rfl,rfl,h,rfl,rfl⟩),ok _ g0⟩
    ·exact ⟨m1,true,.inr (.inr (.inl ⟨rfl,rfl,h,rfl,rfl⟩)),ok _ g1⟩
  |false=>
   cases o1 with
   |true=>exact ⟨m1,true,.inr (.inr (.inr (.inl ⟨rfl,rfl,rfl,rfl⟩))),ok _ g1⟩
   |false=>exact ⟨⟨0,0,0,[]⟩,false,.inr (.inr (.inr (.inr ⟨rfl,rfl,rfl,rfl⟩))),ok _ (.inr rfl)⟩
 have S0:=EvP.of (Ev.of (spec_ReadPage.mono p q 0) e2)
 have S1:=EvP.of (Ev.of (spec_ReadPage.mono p q 1) e4)
 have I0:=EvP.of (Ev.of (impl_ReadPage.mono p q 0) e1)
 have I1:=EvP.of (Ev.of (impl_ReadPage.mono p q 1) e3)
 exact ⟨m,b,(S0.and S1).imp (fun k hk=>⟨s0,s1,m0,m1,o0,o1,hk.1,hk.2,j0,j1,hc⟩),(I0.and I1).imp (fun k hk=>⟨s0,s1,m0,m1,o0,o1,hk.1,hk.2,i0,i1,hc⟩),hm⟩
theorem open_ev (d:(List ByteArray×List S135)) (h0:d.1.length≤1048576) (h1:∀s∈d.1,s.size≤1048576) (h2:∀s∈d.2,s.f1.size≤1048576) (hl:d.2.length≤1048576):∃z ok,EvP (fun k=>SpecOpn k d z ok)∧EvP (fun k=>ImplOpn k d z ok)∧OKs z:=by
 obtain ⟨p,q⟩:=d
 simp only at h0 h1 h2 hl
 obtain ⟨m,b,hS,hI,hm⟩:=best_ev p q h0 h1 h2 hl
 have hd:=EvP.of (diskOkS_ev p q zq3 zq3)
 have hz:OKs (([],[]),(⟨0,0,0,[]⟩:S53),[],((⟨0,0,0,[]⟩:S53),([],[],0,[],[],[]),0),false,false):=⟨⟨z7a _,z7a _⟩,⟨z7a _,fun s hs=>by cases hs⟩,⟨z7a _,fun s hs=>by cases hs⟩,⟨z7a _,fun s hs=>by cases hs⟩,⟨z7a _,z7a _⟩,z7a _,z7a _,z7a _⟩
 cases b with
 |false=>exact ⟨_,false,hS.imp (fun k hk=>⟨m,false,hk,.inl ⟨rfl,rfl,rfl⟩⟩),hI.imp (fun k hk=>⟨m,false,hk,.inl ⟨rfl,rfl,rfl⟩⟩),hz⟩
 |true=>
  cases hD:DOk p q with
  |false=>
   rw [hD] at hd
   exact ⟨_,false,(hS.and hd).imp (fun k hk=>⟨m,true,hk.1,.inr (.inl ⟨rfl,hk.2,rfl,rfl⟩)⟩),hI.imp (fun k hk=>⟨m,true,hk,.inr (.inl ⟨rfl,congrArg some hD,rfl,rfl⟩)⟩),hz⟩
  |true=>
   rw [hD] at hd
   exact ⟨_,true,(hS.and hd).imp (fun k hk=>⟨m,true,hk.1,.inr (.inr ⟨rfl,hk.2,⟨by show p.length≤2000000;omega,by show q.length≤2000000;omega⟩,rfl,rfl⟩)⟩),hI.imp (fun k hk=>⟨m,true,hk,.inr (.inr ⟨rfl,congrArg some hD,⟨by show p.length≤2000000;omega,by show q.length≤2000000;omega⟩,rfl,rfl⟩)⟩),
    ⟨⟨h0,hl⟩,hm,⟨z7a _,fun s hs=>by cases hs⟩,⟨z7a _,fun s hs=>by cases hs⟩,⟨z7a _,z7a _⟩,z7a _,z7a _,z7a _⟩⟩
def INdk (a:(List ByteArray×List S140)):Prop:=INd a.1 a.2
theorem op_law (a:(List ByteArray×List S140)) (ha:INdk a) {cs:List Value} (w:World) (h:kDiskL.K w a cs):
  Calls Try.prog 5 #[.agg cs.toArray] w fun e w'=>e= .returned (.bool true)∧Below w.heap.size w w':=by
 obtain ⟨r,er,hr⟩:=szDx a.1 a.2 ha 1048576 zq32 zq32
 have er':=EvP.of er
 rcases hr with hr|⟨hr0,hr1,hs⟩
 ·obtain ⟨K0,e0⟩:=er'
  exact op_small0 K0 a r w h (e0 K0 (z2a _)) hr
 ·have hto:=EvP.of (toD_ev a.1 a.2 hs)
  have hlen:(a.2.map conv).length≤1048576:=by rw [List.length_map];exact hs.2.1
  have hsz:∀s∈a.2.map conv,s.f1.size≤1048576:=fun s hm=>by
   obtain ⟨y,hy,rfl⟩:=List.mem_map.1 hm
   exact hs.2.2 y hy
  have h10:=hs.1.1
  obtain ⟨z,ok,hsp,him,hz⟩:=open_ev (a.1,a.2.map conv) hs.1.1 hs.1.2 hsz hlen
  have hed:=EvP.of (eqD_ev a.1 (a.2.map conv) zq3 zq3)
  obtain ⟨p',q',hmk,_⟩:=mhD_ev a.1 (a.2.map conv) 1 zq32 zq32 zq3 zq3
  have hmk':=EvP.of hmk
  obtain ⟨z',mg,hmg,mg0,hhd⟩:=mark_store z hz
  obtain ⟨K,hK⟩:=er'.and (hto.and (hsp.and (him.and ((eq_store z hz).and (hed.and (hmk'.and (hmg.and hhd)))))))
  obtain ⟨f1,f2,f3,f4,f5,f6,f7,f8,f9⟩:=hK K (z2a _)
  exact op_great K a r (a.1,a.2.map conv) (p',q') z z' ok _ mg w h f1 f2 f3 f4 f5 f6 f7 f8 f9 zq3 zq3 mg0
end Go.Proofs.Ytonhdiemjgdcnaa.PFnExactGivePage
namespace Go.Proofs.Ytonhdiemjgdcnaa.PFnExactGivePage
open Go.ChangeShapes Go.WideShapes Go.ChangeAt Go.RowKit
open Go.ChangeMaps (open_string shut_string)
open Go.Proofs.Ytonhdiemjgdcnaa.Opened Go.Proofs.YtonhdiemjgdcnaaW.PrintWords
theorem open_disk {H:Type} {enc:TypeId×Value→H} {w:World} {base b0:Nat} {spare:Nat→Bool} {held:Bool} {r:Reach} {v:Value} {x:DataW H} {p:List MemPlace} (hv:Value.okWide Try.prog w r b0 25 v) (h:DataW.Trod enc Try.prog w base spare held 25 v x p):
  ∃(a:(List ByteArray×List S140)) (cs:List Value),v= .agg cs.toArray∧kDiskL.K w a cs∧INdk a:=by
 obtain ⟨a,cs,rfl,h1,h2⟩:=arg_struct Try.underlying25 opens25 hv h
 have hD:kDiskL.K w a cs:=by
  obtain ⟨_,_,rfl,⟨A0,c0,rfl,m0,r0⟩,⟨A1,c1,rfl,m1,r1⟩⟩:=h1
  exact ⟨_,_,rfl,⟨A0,c0,rfl,m0,r0⟩,⟨A1,c1,rfl,m1,r1⟩⟩
 exact ⟨a,cs,rfl,hD,KD_len hD h2⟩
end Go.Proofs.Ytonhdiemjgdcnaa.PFnExactGivePage
namespace Go.Proofs.Ytonhdiemjgdcnaa.Head
def w1:List Char:=[104,97,114,110,101,115,115].map Char.ofNat
def w2:List Char:=[102,102,99,99,97,102,100,57,54,99,57,54,100,98,54,53,56,98,100,57,100,102,97,56,49,98,54,52,48,99,56,57,52,97,101,102,52,49,97,98,49,50,52,102,49,51,48,52,52,99,53,53,98,101,54,56,56,49,55,53,55,54,55,56].map Char.ofNat
def w3:List Char:=[99,117,116].map Char.ofNat
def w4:List Char:=[97,116,32,108,111,111,112,46,101,120,97,109,112,108,101,47,103,48,48,50,52,48,47,108,97,119,115,46,70,110,69,120,97,99,116,71,105,118,101,80,97,103,101,32,108,111,111,112,46,101,120,97,109,112,108,101,47,103,48,48,50,52,48,47,108,97,119,115,46,70,110,69,120,97,99,116,80,117,116,78,111,100,101,32,108,111,111,112,46,101,120,97,109,112,108,101,47,103,48,48,50,52,48,47,108,97,119,115,46,70,110,69,120,97,99,116,79,112,101,110,32,108,111,111,112,46,101,120,97,109,112,108,101,47,103,48,48,50,52,48,47,108,97,119,115,46,70,110,69,120,97,99,116,69,110,100,82,101,97,100,32,108,111,111,112,46,101,120,97,109,112,108,101,47,103,48,48,50,52,48,47,108,97,119,115,46,70,110,69,120,97,99,116,83,116,111,112,87,114,105,116,101,32,108,111,111,112,46,101,120,97,109,112,108,101,47,103,48,48,50,52,48,47,108,97,119,115,46,70,110,69,120,97,99,116,78,101,120,116,77,101,116,97].map Char.ofNat
def blank:Char:=Char.ofNat 32
theorem cut_at (a r:List Char) (h:a.all (· !=blank)=true):wordsSigns (a++blank::r)=a::wordsSigns r:=by
 induction a with
 |nil=>rfl
 |cons c a ih=>
  simp only [List.all_cons,Bool.and_eq_true,bne_iff_ne] at h
  have e:=ih h.2
  have hc:∀s,wordsSigns (c::s)=match wordsSigns s with|w::ws=>(c::w)::ws|[]=>[[c]]:=by
   intro s
   conv=>lhs;unfold wordsSigns
   split
   ·rename_i h0;cases h0
   ·rename_i h0
    injection h0 with h1 h2
    exact absurd h1 h.1
   ·rename_i h0 _ h1
    injection h1 with h2 h3
    subst h2
    subst h3
    rfl
  show wordsSigns (c::(a++blank::r))=_
  rw [hc,e]
theorem io:Try.prog.initOrder=String.ofList (w1++blank::(w2++blank::(w3++blank::w4))):=zq8
theorem words:wordsSigns Try.prog.initOrder.toList=w1::w2::w3::wordsSigns w4:=by
 rw [io,String.toList_ofList,cut_at _ _ zq8,cut_at _ _ zq8,cut_at _ _ zq8]
theorem m0:((w1== "harness".toList||w1== "ownmain".toList)&&isSumSigns w2)=true:=zq8
theorem m1:(w3== "gc".toList)=false:=zq8
theorem m2:(w3== "spec".toList)=false:=zq8
theorem m3:(w3== "cut".toList)=true:=zq8
theorem m4:(w3== "carried".toList)=false:=zq8
theorem m5 (R:List (List Char)):((w3::R).head?==some "cut".toList)=true:=zq8
theorem m5c (R:List (List Char)):((w3::R).head?==some "carried".toList)=false:=zq8
theorem m6 (R:List (List Char)):stripLifts liftWords (w3::R)=([],w3::R):=zq8
theorem m7:Try.prog.laysLater=false:=zq8
theorem m8:Try.prog.bearsReflect=false:=zq8
theorem m9:Try.prog.doorFits []=true:=zq8
theorem behind (R:List (List Char)):behindMainWord (w1::w2::R)=R:=by
 show (if ((w1== "harness".toList||w1== "ownmain".toList)&&isSumSigns w2)=true then R else w1::w2::R)=R
 rw [if_pos m0]
theorem beh:∃R,behindMainWord (wordsSigns Try.prog.initOrder.toList)=w3::R:=⟨wordsSigns w4,by rw [words,behind]⟩
theorem lifts_of (P:Program) (R:List (List Char)) (h:behindMainWord (wordsSigns P.initOrder.toList)=w3::R):(false==P.liftsFinal)=true:=by
 unfold Program.liftsFinal Program.headLifts
 rw [h]
 simp only [m5,m5c,m6]
 rfl
theorem may_of (P:Program) (R:List (List Char)) (h:behindMainWord (wordsSigns P.initOrder.toList)=w3::R) (h7:P.laysLater=false) (h8:P.bearsReflect=false) (h9:P.doorFits []=true):P.mayEnter=true:=by
 unfold Program.mayEnter
 rw [h]
 simp only [m1,m2,m4,m5,m6,h7,h8,h9]
 rfl
theorem made_of (P:Program) (R:List (List Char)) (h:behindMainWord (wordsSigns P.initOrder.toList)=w3::R):(P.make==some Make.cut)=true:=by
 unfold Program.make Program.headLifts
 rw [h]
 simp only [m1,m2,m3]
 rfl
theorem lifts:(false==Try.prog.liftsFinal)=true:=by
 obtain ⟨R,h⟩:=beh
 exact lifts_of _ R h
theorem may:Try.prog.mayEnter=true:=by
 obtain ⟨R,h⟩:=beh
 exact may_of _ R h m7 m8 m9
theorem made:(Try.prog.make==some Make.cut)=true:=by
 obtain ⟨R,h⟩:=beh
 exact made_of _ R h
theorem laid:laidOutB Try.prog=true:=zq8
theorem maps:mapsRowed Try.prog=true:=zq8
theorem heard:Try.prog.stopsHeard=true:=zq8
theorem plain:(true==Try.prog.plainKeys)=true:=zq8
end Go.Proofs.Ytonhdiemjgdcnaa.Head
