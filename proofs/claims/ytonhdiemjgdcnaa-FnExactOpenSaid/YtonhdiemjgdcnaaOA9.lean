import Derived.Test.YtonhdiemjgdcnaaOA8
set_option maxHeartbeats 64000000
set_option maxRecDepth 100000
set_option linter.unusedVariables false
set_option linter.unusedSimpArgs false
namespace Go.Proofs
theorem zq18{P Q0 Q1 Q2:Prop}(q0:Q0)(q1:Q1)(q2:Q2)(h:Q0→Q1→Q2→P:=by intro q0 q1 q2;rw [q0];refine fill_seg (new:=d1) (pre:=[]) (mid:=[.slice none 0 0,.slice none 0 0]) (post:=[.int .i64 0,.int .i64 0,.int .i64 0,.slice none 0 0,.slice none 0 0,.int .i64 0,.int .i64 0,.int .i64 0,.slice none 0 0,.slice none 0 0,.slice none 0 0,.int .i64 0,.slice none 0 0,.slice none 0 0,.slice none 0 0,.int .i64 0,.bool false,.bool false]) rfl (by first|rfl|(simp only [aA,aN,aL];first|done|rfl)) (by show some (0,2)=some (_,_);rw [show (d1:List Value).length=2 from q1];first|done|rfl) (by rw [q1];rfl) ?_;refine fill_seg (new:=d0) (pre:=d1) (mid:=[.int .i64 0,.int .i64 0,.int .i64 0,.slice none 0 0]) (post:=[.slice none 0 0,.int .i64 0,.int .i64 0,.int .i64 0,.slice none 0 0,.slice none 0 0,.slice none 0 0,.int .i64 0,.slice none 0 0,.slice none 0 0,.slice none 0 0,.int .i64 0,.bool false,.bool false]) rfl (by first|rfl|(simp only [aA,aN,aL];first|done|rfl)) (by show some (2,4)=some (_,_);rw [show (d1:List Value).length=2 from q1,show (d0:List Value).length=4 from q2];first|done|rfl) (by rw [q2];rfl) ?_;first|rfl|simp only [Instr.fill,aA,aN,aL]):P:=h q0 q1 q2
theorem zq23{P:Prop}(h:P:=by have o:=O.1;dsimp only [Off,OffA,Fct.box,Fct.made,List.set];and_intros<;>first|trivial|omega):P:=h
theorem zq41{P Q0:Prop}(q0:Q0)(h:Q0→P:=by intro q0;rw [q0];exact fresh (d:=kStore) (comb (E.1.made 0 rfl) (comb (E.1.made 2 rfl) zero_rest (fun k h1 h2=>by have o:=O.1;(try simp only [Iv,true_and,or_false,false_or] at h1 h2)<;>omega)) (fun k h1 h2=>by have o:=O.1;(try simp only [Iv,true_and,or_false,false_or] at h1 h2)<;>omega)) (z2a _)):P:=h q0
theorem zq62{P:Prop}(h:P:=by rw [Lcs.1];kernel_rfl):P:=h
theorem zq78{P:Prop}(h:P:=by first|rfl|exact congrArg (Value.int .i64) HW.1):P:=h
theorem zq83{P:Prop}(h:P:=by have hh:=hb1.size;(try simp at hh);omega):P:=h
theorem zq87{P:Prop}(h:P:=by
 rcases HRES.1 with ⟨e1,e3,e4,e5,e6⟩|⟨e1,e5,e6⟩
 ·(try subst e1)
  (try (cases e1;done))
  subst e3 e5 e6
  have hq3:(tx.toList !=t.toList)=false:=by rw [e4];simp
  have hq4:(tx.toList==t.toList)=true:=by rw [e4];simp
  clear e4
  have hr2:w8.cell? ⟨w1.heap.size,2,none⟩=some (.bool false):=(zd HN8.1.bR 2).trans rfl
  go_wp2
  have B1:=zv BO.1 0 (.int .i64 a) rfl
  have B2:=zv B1 1 (.int .i64 b) rfl
  have B3:=zv B2 2 (.int .i64 c) rfl
  have B4:=zv B3 3 (.slice A sf.length cc) rfl
  refine bodyPost_ret (zZ rfl _ _ w.heap.size 53 #[.int .i64 a,.int .i64 b,.int .i64 c,.slice A sf.length cc] (0,0) _ rfl B4 Try.underlying53 rfl zq8) rfl ?_
  exact m_post (m:=⟨a,b,c,sf⟩) (m_done HN8.1)
 ·subst e5 e6
  generalize hbb:sb=bb at HN8 e1
  cases bb with
  |true=>
   clear e1
   have hr2:w8.cell? ⟨w1.heap.size,2,none⟩=some (.bool true):=(zd HN8.1.bR 2).trans rfl
   go_wp2
   have B1:=zv BO.1 0 (.int .i64 0) rfl
   have B2:=zv B1 1 (.int .i64 0) rfl
   have B3:=zv B2 2 (.int .i64 0) rfl
   have B4:=zv B3 3 (.slice none 0 0) rfl
   refine bodyPost_ret (zZ rfl _ _ w.heap.size 53 #[.int .i64 0,.int .i64 0,.int .i64 0,.slice none 0 0] (0,0) _ rfl B4 Try.underlying53 rfl zq8) rfl ?_
   exact m_zero (m_done HN8.1).2
  |false=>
   have hr2:w8.cell? ⟨w1.heap.size,2,none⟩=some (.bool false):=(zd HN8.1.bR 2).trans rfl
   cases hokt:okt with
   |false=>
    subst hokt
    clear e1
    go_wp2
    have B1:=zv BO.1 0 (.int .i64 0) rfl
    have B2:=zv B1 1 (.int .i64 0) rfl
    have B3:=zv B2 2 (.int .i64 0) rfl
    have B4:=zv B3 3 (.slice none 0 0) rfl
    refine bodyPost_ret (zZ rfl _ _ w.heap.size 53 #[.int .i64 0,.int .i64 0,.int .i64 0,.slice none 0 0] (0,0) _ rfl B4 Try.underlying53 rfl zq8) rfl ?_
    exact m_zero (m_done HN8.1).2
   |true=>
    subst hokt
    have e3:¬tx.toList=t.toList:=by
     rcases e1 with e|e|e
     ·cases e
     ·cases e
     ·exact e
    have hq3:(tx.toList !=t.toList)=true:=by simpa using e3
    have hq4:(tx.toList==t.toList)=false:=by simpa using e3
    clear e1 e3
    go_wp2
    have B1:=zv BO.1 0 (.int .i64 0) rfl
    have B2:=zv B1 1 (.int .i64 0) rfl
    have B3:=zv B2 2 (.int .i64 0) rfl
    have B4:=zv B3 3 (.slice none 0 0) rfl
    refine bodyPost_ret (zZ rfl _ _ w.heap.size 53 #[.int .i64 0,.int .i64 0,.int .i64 0,.slice none 0 0] (0,0) _ rfl B4 Try.underlying53 rfl zq8) rfl ?_
    exact m_zero (m_done HN8.1).2):P:=h
theorem zq91{P:Prop}(h:P:=by
 go_wp2
 have B1:=zv Y4.1 0 (.int .i64 m1.f0) rfl
 have B2:=zv B1 1 (.int .i64 m1.f1) rfl
 have B3:=zv B2 2 (.int .i64 m1.f2) rfl
 have B4:=zv B3 3 (.slice A3 m1.f3.length c3) rfl
 refine bodyPost_ret (zZ rfl _ _ (w.heap.size+1) 53 #[.int .i64 m1.f0,.int .i64 m1.f1,.int .i64 m1.f2,.slice A3 m1.f3.length c3] (0,0) _ rfl (zo B4 _) Try.underlying53 rfl zq8) rfl ?_
 exact m_post (b_alloc (b_done hN1.out HB5.1))):P:=h
theorem zq92{P:Prop}(h:P:=by
 go_wp2
 have B1:=zv Y4.1 0 (.int .i64 m0.f0) rfl
 have B2:=zv B1 1 (.int .i64 m0.f1) rfl
 have B3:=zv B2 2 (.int .i64 m0.f2) rfl
 have B4:=zv B3 3 (.slice A2 m0.f3.length c2) rfl
 refine bodyPost_ret (zZ rfl _ _ (w.heap.size+1) 53 #[.int .i64 m0.f0,.int .i64 m0.f1,.int .i64 m0.f2,.slice A2 m0.f3.length c2] (0,0) _ rfl (zo B4 _) Try.underlying53 rfl zq8) rfl ?_
 exact m_post (b_alloc (b_done hN.out HB5.1))):P:=h
theorem zq111{P:Prop}(h:P:=by
 go_wp2
 have B1:=zv Y4.1 0 (.int .i64 0) rfl
 have B2:=zv B1 1 (.int .i64 0) rfl
 have B3:=zv B2 2 (.int .i64 0) rfl
 have B4:=zv B3 3 (.slice none 0 0) rfl
 refine bodyPost_ret (zZ rfl _ _ (w.heap.size+1) 53 #[.int .i64 0,.int .i64 0,.int .i64 0,.slice none 0 0] (0,0) _ rfl (zo B4 _) Try.underlying53 rfl zq8) rfl ?_
 exact m_zero (b_alloc (b_done hN.out HB5.1)).2):P:=h
theorem zq116{P:Prop}(h:P:=by
 go_wp2
 have B1:=zv BO.1 0 (.int .i64 0) rfl
 have B2:=zv B1 1 (.int .i64 0) rfl
 have B3:=zv B2 2 (.int .i64 0) rfl
 have B4:=zv B3 3 (.slice none 0 0) rfl
 refine bodyPost_ret (zZ rfl _ _ w.heap.size 53 #[.int .i64 0,.int .i64 0,.int .i64 0,.slice none 0 0] (0,0) _ rfl B4 Try.underlying53 rfl zq8) rfl ?_
 exact m_zero (m_done HN8.1).2):P:=h
end Go.Proofs
namespace Go.Proofs.Ytonhdiemjgdcnaa.PFnExactGivePage
open Go.RowKit Go.Proofs.YtonhdiemjgdcnaaW.PrintWords Go.Proofs.YtonhdiemjgdcnaaW.PrintLast Go.Proofs.YtonhdiemjgdcnaaW.PrintMore
attribute [local go_sem] zV zU zia zha zP zN zS zT
theorem enc_byte (n:Nat):∀b∈enc n,0≤b∧b<256:=by
 induction n using Nat.strongRecOn with
 |ind n ih=>
  intro b hb
  by_cases h:n<128
  ·rw [zEa h,List.mem_singleton] at hb
   subst hb
   omega
  ·rw [enc_great h,List.mem_cons] at hb
   rcases hb with rfl|hb
   ·omega
   ·exact ih (n/128) zq3 b hb
theorem enc_next {d x:Nat} (hd:d<128) (hx:1≤x):enc (d+128*x)=((d+128:Nat):Int)::enc x:=by
 rw [enc_great zq3]
 congr 1
 ·congr 1;omega
 ·congr 1;omega
def bytes (s:ByteArray) (a b:Nat):List Int:=(List.range (b-a)).map fun j=>bt s ((a+j:Nat):Int)
theorem bytes_len (s:ByteArray) (a b:Nat):(bytes s a b).length=b-a:=by simp [bytes]
theorem bytes_nil (s:ByteArray) (a:Nat):bytes s a a=[]:=by simp [bytes]
theorem bytes_snoc (s:ByteArray) {a b:Nat} (h:a≤b):bytes s a (b+1)=bytes s a b++[bt s (b:Int)]:=by
 unfold bytes
 rw [show b+1-a=(b-a)+1 by omega,List.range_succ,List.map_append,List.map_singleton,show a+(b-a)=b by omega]
theorem bytes_byte (s:ByteArray) (a b:Nat):∀x∈bytes s a b,0≤x∧x<256:=by
 intro x hx
 simp only [bytes,List.mem_map] at hx
 obtain ⟨j,_,rfl⟩:=hx
 have:=zcb s ((a+j:Nat):Int)
 omega
theorem map_inj_byte {xs ys:List Int} (hx:∀x∈xs,0≤x∧x<256) (hy:∀x∈ys,0≤x∧x<256) (h:xs.map (fun n=>UInt8.ofNat n.toNat)=ys.map (fun n=>UInt8.ofNat n.toNat)):xs=ys:=by
 induction xs generalizing ys with
 |nil=>simpa using h.symm
 |cons x xs ih=>
  cases ys with
  |nil=>simp at h
  |cons y ys=>
   simp only [List.map_cons,List.cons.injEq] at h
   have h1:=hx x zq29
   have h2:=hy y zq29
   have h3:=congrArg UInt8.toNat h.1
   simp only [UInt8.toNat_ofNat'] at h3
   rw [ih (fun z hz=>hx z (by simp [hz])) (fun z hz=>hy z (by simp [hz])) h.2]
   congr 1
   omega
theorem bt_nat (s:ByteArray) (i:Nat) (h:i<s.size):bt s (i:Int)=((s.data[i]'h).toNat:Int):=by
 unfold bt
 rw [dif_pos (show ((i:Int)).toNat<s.size by rw [Int.toNat_natCast];exact h)]
 simp only [Int.toNat_natCast]
 rfl
theorem zab (s:ByteArray) (a b:Nat) (hb:b≤s.size):(s.extract a b).toList=(bytes s a b).map (fun n=>UInt8.ofNat n.toNat):=by
 rw [Lib.toList_data]
 have hs:s.data.size=s.size:=rfl
 apply List.ext_getElem
 ·rw [List.length_map,bytes_len,Array.length_toList,ByteArray.data_extract,Array.size_extract]
  omega
 ·intro i h1 h2
  have h3:i<b-a:=by rw [List.length_map,bytes_len] at h2;exact h2
  have h4:a+i<s.size:=zq3
  simp only [bytes,List.getElem_map,List.getElem_range,bt_nat s (a+i) h4,Int.toNat_natCast,UInt8.ofNat_toNat,Array.getElem_toList,ByteArray.data_extract,Array.getElem_extract]
theorem str_eq_iff (xs:List Int) (s:ByteArray) (a b:Nat) (hb:b≤s.size) (hx:∀x∈xs,0≤x∧x<256):(strOfNums xs).toList=(s.extract a b).toList↔xs=bytes s a b:=by
 rw [zab s a b hb,Lib.strOfNums_toList]
 constructor
 ·intro h
  exact map_inj_byte hx (bytes_byte s a b) h
 ·rintro rfl
  rfl
theorem pow_le4 {i:Nat} (hi:i≤4):128^i≤268435456:=by
 have:i=0∨i=1∨i=2∨i=3∨i=4:=zq3
 rcases this with rfl|rfl|rfl|rfl|rfl<;>decide
theorem or_mul (N b i:Nat) (hb:b<256) (hi:i≤4) (hN:N<128^i):
  Go.bits .or .i64 (N:Int) (shl .i64 (Go.bits .and .i64 (wrap64 (b:Int)) 127) (wrap64 (7*(i:Int))))=((N+b%128*128^i:Nat):Int):=by
 have hp:=pow_le4 hi
 have h7:wrap64 (7*(i:Int))=((7*i:Nat):Int):=by rw [w64]<;>omega
 have hbw:wrap64 (b:Int)=(b:Int):=w64 zq3 zq3
 have h128:(2:Nat)^(7*i)=128^i:=by rw [Nat.pow_mul]
 have hprod:b%128*128^i≤127*268435456:=Nat.mul_le_mul zq3 hp
 rw [h7,hbw,i64_and127]
 have hs:shl .i64 ((b:Int)%128) ((7*i:Nat):Int)=((2^(7*i)*(b%128):Nat):Int):=by
  unfold shl
  rw [Int.toNat_natCast,show IntKind.i64.bits=64 from rfl,Nat.min_eq_left zq3,zxa]
  have:((b:Int)%128)*2^(7*i)=((2^(7*i)*(b%128):Nat):Int):=by
   rw [Int.mul_comm]
   simp
  rw [this,w64 zq3]
  rw [h128,Nat.mul_comm]
  omega
 rw [hs]
 have hk:∀n:Int,0≤n→n<2^62→IntKind.i64.wrap n=n:=by
  intro n h0 h1
  rw [zxa,w64 h0 zq3]
 have hN62:N<2^62:=zq3
 have hM62:2^(7*i)*(b%128)<2^62:=by rw [h128,Nat.mul_comm];omega
 rw [(bits_nat .i64 62 zq32 hk N _ hN62 hM62).2,Nat.or_comm,←Nat.two_pow_add_eq_or_of_lt (by rw [h128];exact hN),h128,Nat.mul_comm,Nat.add_comm]
theorem himpl1 (s:ByteArray) (at_ i N:Nat) (hs:s.size≤140737488351232) (hi4:i≤4) (hlt:at_+i<s.size) (k:Nat) (R) (hR:impl_ReadVar.j1 (k+1) s at_ N i true=R):impl_ReadVar.l0 (k+2) s at_ N i=R:=by
 have hat1:wrap64 ((at_:Int)+(i:Int))=((at_+i:Nat):Int):=zq70
 have h2:((at_+i:Nat):Int)<(s.size:Int):=by clear hat1;omega
 have h3:(i:Int)<5:=by clear hat1;omega
 rw [impl_ReadVar.l0,if_pos h3,hat1,decide_eq_true h2]
 exact hR
theorem himpl2 (s:ByteArray) (at_ i N b M:Nat) (hs:s.size≤140737488351232) (hi4:i≤4) (hlt:at_+i<s.size) (hb256:b<256) (hb:Z0 (bt s ((at_+i:Nat):Int)=(b:Int))) (k:Nat)
  (hor:Z0 (Go.bits .or .i64 (N:Int) (shl .i64 (Go.bits .and .i64 (wrap64 (b:Int)) 127) (wrap64 (7*(i:Int))))=(M:Int))):
  impl_ReadVar.j1 (k+1) s at_ N i true=if b>127 then impl_ReadVar.l0 k s at_ (M:Int) ((i+1:Nat):Int) else (if b=0∧i>0 then some (0,0,false) else if M>1000000000 then some (0,0,false) else some ((M:Int),((at_+i+1:Nat):Int),true)):=by
 have g1:(0:Int)≤((at_+i:Nat):Int):=zq3
 have g2:((at_+i:Nat):Int)<(s.size:Int):=zq3
 have e0:=zz (show wrap64 ((at_:Int)+(i:Int))=((at_+i:Nat):Int) by rw [w64 zq3 zq3];omega)
 have e1:=zz (show wrap64 (b:Int)=(b:Int) from w64 zq3 zq3)
 have e2:=zz (show wrap64 (((at_+i:Nat):Int)+1)=((at_+i+1:Nat):Int) by rw [w64 zq3 zq3];omega)
 have e3:=zz (show wrap64 ((i:Int)+1)=((i+1:Nat):Int) by rw [w64 zq3 zq3];omega)
 have e4:0≤wrap64 (7*(i:Int)):=zq70
 rw [impl_ReadVar.j1,if_pos rfl,e0.out,if_pos g1,if_pos g2,if_pos e4,hb.out,hor.out,e1.out,e2.out,e3.out]
 clear e0 e1 e2 e3 e4 hor hb
 generalize impl_ReadVar.l0 k s at_ (M:Int) ((i+1:Nat):Int)=Z
 have a1:(b:Int)>127↔b>127:=zq3
 have a2:(b:Int)=0↔b=0:=zq3
 have a3:(i:Int)>0↔i>0:=zq3
 have a4:(M:Int)>1000000000↔M>1000000000:=zq3
 simp only [a1,a2,a3,a4]
 by_cases h2:b=0<;>by_cases h3:i>0<;>simp [h2,h3]
theorem hspec (s:ByteArray) (at_ i N b M:Nat) (P:Int) (hs:s.size≤140737488351232) (hi4:i≤4) (hlt:at_+i<s.size) (hb:Z0 (bt s ((at_+i:Nat):Int)=(b:Int))) (k:Nat)
  (hsum:Z0 (wrap64 ((N:Int)+wrap64 (Int.tmod (wrap64 (b:Int)) 128*P))=(M:Int))):
  spec_ReadVar.l0 (k+2) s at_ N P ((at_+i:Nat):Int)=if b<128 then (if M>1000000000 then some (0,0,false) else (spec_l01Var.f k (M:Int)).bind fun t=>if t.toList=(s.extract at_ (at_+i+1)).toList then some ((M:Int),((at_+i+1:Nat):Int),true) else some (0,0,false))
   else spec_ReadVar.l0 k s at_ (M:Int) (wrap64 (P*128)) ((at_+i+1:Nat):Int):=by
 have g1:(0:Int)≤((at_+i:Nat):Int):=zq3
 have g2:((at_+i:Nat):Int)<(s.size:Int):=zq3
 have g3:(0:Int)≤(at_:Int):=zq3
 have g4:(at_:Int)≤((at_+i+1:Nat):Int):=zq3
 have g5:((at_+i+1:Nat):Int)≤(s.size:Int):=zq3
 have e0:=zz (show decide (((at_+i:Nat):Int)<wrap64 ((at_:Int)+5))=true by rw [w64 zq3 zq3];exact z6 zq3)
 have e2:=zz (show wrap64 (((at_+i:Nat):Int)+1)=((at_+i+1:Nat):Int) by rw [w64 zq3 zq3];omega)
 rw [spec_ReadVar.l0,if_pos g2,e0.out,spec_ReadVar.j1,if_pos rfl,if_pos g1,if_pos g2,hb.out,hsum.out,e2.out]
 clear e0 e2 hsum hb
 rw [Int.toNat_natCast,Int.toNat_natCast]
 have a1:(b:Int)<128↔b<128:=zq3
 have a4:(M:Int)>1000000000↔M>1000000000:=zq3
 simp only [a1,a4,if_pos g3,if_pos g4,if_pos g5]
def Good (s:ByteArray) (at_:Nat) (r:Int×Int×Bool):Prop:=
 r=(0,0,false)∨∃n next:Nat,r=((n:Int),(next:Int),true)∧n≤1000000000∧at_<next∧next≤s.size∧bytes s at_ next=enc n
theorem pow_succ_le {i:Nat} (hi:i≤4):128^(i+1)≤34359738368:=by
 have:=pow_le4 hi
 rw [Nat.pow_succ]
 omega
theorem read_both (s:ByteArray) (hs:s.size≤140737488351232) (at_:Nat):∀(d i N:Nat),i+d=5→N<128^i→(∀x,1≤x→enc (N+128^i*x)=bytes s at_ (at_+i)++enc x)→at_+i≤s.size→
  ∃r,impl_ReadVar.l0 (2*d+2) s at_ N i=some r∧spec_ReadVar.l0 (2*d+10) s at_ N ((128^i:Nat):Int) ((at_+i:Nat):Int)=some r∧Good s at_ r:=by
 intro d
 induction d with
 |zero=>
  intro i N hi hN hP hle
  obtain rfl:i=5:=zq3
  refine ⟨(0,0,false),?_,?_,Or.inl rfl⟩
  ·rw [impl_ReadVar.l0,if_neg zq3,impl_ReadVar.j1,if_neg zq29]
  ·have h5:decide (((at_+5:Nat):Int)<wrap64 ((at_:Int)+5))=false:=by
    rw [w64 zq3 zq3]
    exact z7 zq3
   rw [spec_ReadVar.l0,h5]
   split<;>rw [spec_ReadVar.j1,if_neg zq29]
 |succ d ih=>
  intro i N hi hN hP hle
  have hi4:i≤4:=zq3
  by_cases hlt:at_+i<s.size
  ·obtain ⟨b,hb⟩:∃b:Nat,bt s ((at_+i:Nat):Int)=(b:Int):=⟨(bt s ((at_+i:Nat):Int)).toNat,by have:=(zcb s ((at_+i:Nat):Int)).1;exact (Int.toNat_of_nonneg this).symm⟩
   have hb256:b<256:=by have:=(zcb s ((at_+i:Nat):Int)).2;rw [hb] at this;omega
   have HB:=zz hb
   clear hb
   have hor:=zz (or_mul N b i hb256 hi4 hN)
   have hp:=pow_le4 hi4
   have hprod:b%128*128^i≤127*268435456:=Nat.mul_le_mul zq3 hp
   have hprod2:b%128*128^i≤127*128^i:=z6a _ zq3
   have hsum:Z0 (wrap64 ((N:Int)+wrap64 (Int.tmod (wrap64 (b:Int)) 128*((128^i:Nat):Int)))=((N+b%128*128^i:Nat):Int)):=by
    refine ⟨?_⟩
    rw [w64 (n:=(b:Int)) zq3 zq3,Int.tmod_eq_emod_of_nonneg zq3]
    have:(b:Int)%128*((128^i:Nat):Int)=((b%128*128^i:Nat):Int):=zq29
    rw [this,w64 (n:=((b%128*128^i:Nat):Int)) zq3 zq3,w64 zq3 zq3]
    omega
   have hNN:N+b%128*128^i<128^(i+1):=by rw [Nat.pow_succ];omega
   have hM:N+b%128*128^i<34359738368:=z3a hNN (pow_succ_le hi4)
   have h1:=himpl2 s at_ i N b _ hs hi4 hlt hb256 HB (2*d+2) hor
   have h1:=himpl1 s at_ i N hs hi4 hlt (2*d+2) _ h1
   have h2:=hspec s at_ i N b _ _ hs hi4 hlt HB (2*d+10) hsum
   have hpow:wrap64 (((128^i:Nat):Int)*128)=((128^(i+1):Nat):Int):=by
    have:((128^i:Nat):Int)*128=((128^(i+1):Nat):Int):=by rw [Nat.pow_succ];simp
    rw [this,w64 zq3]
    have:=pow_succ_le hi4
    omega
   rw [hpow] at h2
   have hd1:2*(d+1)+2=2*d+2+2:=zq3
   have hd2:2*(d+1)+10=2*d+10+2:=zq3
   rw [hd1,hd2]
   clear hsum hor hpow hd1 hd2
   by_cases hcont:b>127
   ·rw [if_pos hcont] at h1
    rw [if_neg (show ¬b<128 by omega)] at h2
    obtain ⟨r,hr1,hr2,hr3⟩:=ih (i+1) (N+b%128*128^i) zq3 hNN (by
     intro x hx
     have h3:=hP (b%128+128*x) zq3
     rw [enc_next zq3 hx] at h3
     have h4:N+b%128*128^i+128^(i+1)*x=N+128^i*(b%128+128*x):=by
      rw [Nat.pow_succ,Nat.mul_add,Nat.mul_comm (b%128),Nat.mul_assoc]
      omega
     rw [h4,h3,←Nat.add_assoc,bytes_snoc s zq3,HB.1,List.append_assoc]
     congr 2
     omega) zq3
    exact ⟨r,h1.trans hr1,h2.trans hr2,hr3⟩
   ·rw [if_neg hcont] at h1
    rw [if_pos (show b<128 by omega)] at h2
    have hbm:b%128=b:=Nat.mod_eq_of_lt zq3
    rw [hbm] at h1 h2 hNN hM
    generalize hMd:N+b*128^i=M at h1 h2 hNN hM
    by_cases hbig:M>1000000000
    ·rw [if_pos hbig] at h2
     refine ⟨(0,0,false),?_,h2,Or.inl rfl⟩
     rw [h1]
     by_cases hz:b=0∧i>0
     ·rw [if_pos hz]
     ·rw [if_neg hz,if_pos hbig]
    ·rw [if_neg hbig] at h2
     have hev:=l01Var_ev (2*d+9) M [] (z3a hNN (Nat.pow_le_pow_right zq32 zq3)) zq80 zq3
     have hev':spec_l01Var.f (2*d+10) (M:Int)=some (strOfNums (enc M)):=hev
     rw [hev',Option.bind_some] at h2
     have hiff:=str_eq_iff (enc M) s at_ (at_+i+1) zq3 (enc_byte M)
     by_cases hz:b=0∧i>0
     ·rw [if_pos hz] at h1
      have hne:¬(strOfNums (enc M)).toList=(s.extract at_ (at_+i+1)).toList:=by
       rw [hiff]
       intro h
       have hl:=congrArg List.length h
       rw [bytes_len] at hl
       obtain ⟨i',rfl⟩:∃i',i=i'+1:=⟨i-1,zq3⟩
       have:M=N:=by rw [←hMd,hz.1];simp
       have:=enc_len i' M (by rw [this];exact hN)
       omega
      rw [if_neg hne] at h2
      exact ⟨_,h1,h2,Or.inl rfl⟩
     ·rw [if_neg hz,if_neg hbig] at h1
      have heq:enc M=bytes s at_ (at_+i+1):=by
       rw [bytes_snoc s zq3,HB.1]
       by_cases hb0:b=0
       ·have hi0:i=0:=zq3
        subst hi0
        have:N=0:=by simpa using hN
        subst this
        subst hb0
        subst hMd
        show enc 0=bytes s at_ at_++[((0:Nat):Int)]
        rw [bytes_nil,zEa zq32]
        rfl
       ·have:=hP b zq3
        rw [zEa (show b<128 by omega)] at this
        rw [←this,←hMd,Nat.mul_comm]
      rw [if_pos (hiff.2 heq)] at h2
      exact ⟨_,h1,h2,Or.inr ⟨M,at_+i+1,rfl,zq3,zq3,zq3,heq.symm⟩⟩
  ·refine ⟨(0,0,false),?_,?_,Or.inl rfl⟩
   ·have h5:decide (wrap64 ((at_:Int)+(i:Int))<(s.size:Int))=false:=by
     rw [w64 zq3 zq3]
     exact z7 zq3
    have h6:(i:Int)<5:=zq3
    rw [show 2*(d+1)+2=2*d+2+2 by omega,impl_ReadVar.l0,if_pos h6,h5,impl_ReadVar.j1,if_neg zq29]
   ·rw [show 2*(d+1)+10=2*d+10+2 by omega,spec_ReadVar.l0,if_neg zq3,spec_ReadVar.j1,if_neg zq29]
def rvar (s:ByteArray) (at_:Int):Int×Int×Bool:=(impl_ReadVar.f 20 s at_).getD (0,0,false)
theorem rvar_all (s:ByteArray) (hs:s.size≤140737488351232) (at_:Int):
  impl_ReadVar.f 12 s at_=some (rvar s at_)∧spec_ReadVar.f 20 s at_=some (rvar s at_)∧impl_ReadVar.f 20 s at_=some (rvar s at_)∧(rvar s at_=(0,0,false)∨∃a n next:Nat,at_=(a:Int)∧rvar s at_=((n:Int),(next:Int),true)∧n≤1000000000∧a<next∧next≤s.size∧bytes s a next=enc n):=by
 by_cases h:0≤at_∧at_≤(s.size:Int)
 ·obtain ⟨a,rfl⟩:=Int.eq_ofNat_of_zero_le h.1
  obtain ⟨r,h1,h2,h3⟩:=read_both s hs a 5 0 0 rfl zq32 (fun x hx=>by simp [bytes_nil]) zq3
  rw [show 2*5+2=12 by decide,show ((0:Nat):Int)=0 by rfl] at h1
  rw [show 2*5+10=20 by decide,show ((0:Nat):Int)=0 by rfl,show ((128^0:Nat):Int)=1 by rfl,Nat.add_zero] at h2
  have e1:impl_ReadVar.f 12 s (a:Int)=some r:=by
   unfold impl_ReadVar.f impl_in.f
   rw [if_pos h.1,decide_eq_true h.2,Option.bind_some,if_pos rfl]
   exact h1
  have e1':impl_ReadVar.f 20 s (a:Int)=some r:=by
   have:=impl_ReadVar.mono s (a:Int)
   have hm:∀k,impl_ReadVar.f 12 s (a:Int)=some r→impl_ReadVar.f (12+k) s (a:Int)=some r:=by
    intro k hk
    induction k with
    |zero=>exact hk
    |succ k ih=>exact this _ _ ih
   exact hm 8 e1
  have e2:spec_ReadVar.f 20 s (a:Int)=some r:=by
   unfold spec_ReadVar.f spec_l01In.f
   rw [if_pos h.1,decide_eq_true h.2,Option.bind_some,if_pos rfl]
   exact h2
  have e3:rvar s (a:Int)=r:=by unfold rvar;rw [e1'];rfl
  rw [e3]
  refine ⟨e1,e2,e1',?_⟩
  rcases h3 with h3|⟨n,next,h4,h5,h6,h7,h8⟩
  ·exact .inl h3
  ·exact .inr ⟨a,n,next,rfl,h4,h5,h6,h7,h8⟩
 ·have hin:∀k,impl_ReadVar.f k s at_=some (0,0,false):=by
   intro k
   unfold impl_ReadVar.f impl_in.f
   by_cases h1:at_≥0
   ·rw [if_pos h1,decide_eq_false zq3]
    rfl
   ·rw [if_neg h1]
    rfl
  have e3:rvar s at_=(0,0,false):=by unfold rvar;rw [hin];rfl
  rw [e3]
  refine ⟨hin _,?_,hin _,.inl rfl⟩
  unfold spec_ReadVar.f spec_l01In.f
  by_cases h1:at_≥0
  ·rw [if_pos h1,decide_eq_false zq3]
   rfl
  ·rw [if_neg h1]
   rfl
def zra (t:ByteArray):ByteArray×Bool:=
 if 4≤t.size∧t.size≤20004∧(t.extract (t.size-4) t.size).toList=(sealN (t.extract 0 (t.size-4))).toList then (t.extract 0 (t.size-4),true) else (⟨#[]⟩,false)
theorem unsealed_f (t:ByteArray) (ht:t.size≤140737488351232):(∃k,impl_Unsealed.f k t=some (zra t))∧(∃k,spec_Unsealed.f k t=some (zra t)):=by
 have e0:wrap64 ((t.size:Int)-4)=(t.size:Int)-4:=zq79
 by_cases h1:4≤t.size∧t.size≤20004
 ·have hx:(t.extract 0 (t.size-4)).size=t.size-4:=by simp [ByteArray.size_extract]
  obtain ⟨h2,h3⟩:=seal_f (t.extract 0 (t.size-4)) (by rw [hx];omega)
  have e1:((t.size:Int)-4).toNat=t.size-4:=zq3
  have c1:(t.size:Int)-4≥0:=zq3
  have c2:(t.size:Int)-4≤20000:=zq3
  have c3:(0:Int)≤(t.size:Int)-4:=zq3
  have c4:(t.size:Int)-4≤(t.size:Int):=zq3
  have c5:¬(t.size:Int)-4<0:=zq3
  have c6:¬(t.size:Int)-4>20000:=zq3
  generalize hK:10*(t.extract 0 (t.size-4)).size+1=K at h2 h3
  refine ⟨⟨K,?_⟩,⟨K,?_⟩⟩
  ·unfold impl_Unsealed.f impl_in.f zra
   rw [e0,if_pos c1,decide_eq_true c2,Option.bind_some,if_pos rfl,if_pos c3,if_pos c4,e1,h2,Option.bind_some]
   by_cases h4:(t.extract (t.size-4) t.size).toList=(sealN (t.extract 0 (t.size-4))).toList
   ·rw [if_pos h4,if_pos ⟨h1.1,h1.2,h4⟩]
   ·rw [if_neg h4,if_neg (fun q=>h4 q.2.2)]
  ·unfold spec_Unsealed.f zra
   rw [e0,if_neg c5,if_neg c6,if_pos c3,if_pos c4,e1]
   cases hs:spec_SumOf.f K (t.extract 0 (t.size-4)) with
   |none=>rw [hs] at h3;cases h3
   |some q=>
    rw [hs,Option.bind_some] at h3
    rw [Option.bind_some,h3,Option.bind_some]
    by_cases h4:(t.extract (t.size-4) t.size).toList=(sealN (t.extract 0 (t.size-4))).toList
    ·rw [if_pos h4,if_pos ⟨h1.1,h1.2,h4⟩]
    ·rw [if_neg h4,if_neg (fun q=>h4 q.2.2)]
 ·have hu:zra t=(⟨#[]⟩,false):=by unfold zra;rw [if_neg (fun q=>h1 ⟨q.1,q.2.1⟩)]
  rw [hu]
  refine ⟨⟨0,?_⟩,⟨0,?_⟩⟩
  ·unfold impl_Unsealed.f impl_in.f
   rw [e0]
   by_cases c1:(t.size:Int)-4≥0
   ·rw [if_pos c1,decide_eq_false zq3]
    rfl
   ·rw [if_neg c1]
    rfl
  ·unfold spec_Unsealed.f
   rw [e0]
   by_cases c1:(t.size:Int)-4<0
   ·rw [if_pos c1]
   ·have c2:(t.size:Int)-4>20000:=zq3
    rw [if_neg c1,if_pos c2]
structure Up (w:World) where
 W:World
 below:Below w.heap.size w W
instance (w:World):Inhabited (Up w):=⟨⟨w,z0a _ w⟩⟩
theorem wp_region_up {P:Program} {id:Nat} {Q:Exit→Act→World→Prop} {a:Act} {w:World} {l:List Oper} (hm:P.follows .mixedOrders=true) (hB:Region.lexB .any l.toArray=true)
  (h:wpQuiet P l.toArray (fun w'=>∃q:Up w,w'=q.W) (fun a'=>∀w',(∃q:Up w,w'=q.W)→Q .normal a' w') l a):(Code.region id l.toArray true).wp P Q a w:=
 wp_region_quiet (C:=fun w'=>∃q:Up w,w'=q.W) hm hB ⟨⟨_,(z0a _ w).drew⟩,rfl⟩ (by simpa using h)
theorem up_cell {w:World} {a:Addr} {v:Value} (h:w.cell? a=some v):∀q:Up w,q.W.cell? a=some v:=fun q=>zRa q.below h
def RdPost (w0 w:World) (g t:Nat) (res:Value) (s:ByteArray) (at_:Int) (bad:Bool) (e:Ending) (w':World):Prop:=
 e= .returned res∧w'.heap[g]?=some (.cells #[.string s,.int .i64 at_,.bool bad] t (0,0))∧Below w0.heap.size w0 w'∧KeepBut w w' g none
theorem l04Var_bad (k g:Nat) (s:ByteArray) (at_:Int) (n:Int) (next:Int) (ok:Bool) (w0 w:World) (hI:w.heap[g]?=some (.cells #[.string s,.int .i64 at_,.bool true] 174 (0,0))) (hg:w0.heap.size≤g) (hB:Below w0.heap.size w0 w) (h:spec_ReadVar.f k s at_=some (n,next,ok)):
  Calls Try.prog 153 #[.pointer (some ⟨g,0,none⟩)] w (RdPost w0 w g 174 (.int .i64 0) s at_ true):=by
 have HI:=zz hI
 have HB:=zz hB
 have H:=zz h
 have u0:∀q:Up w,q.W.cell? ⟨g,0,none⟩=some (.string s):=up_cell ((zd hI 0).trans rfl)
 have u1:∀q:Up w,q.W.cell? ⟨g,1,none⟩=some (.int .i64 at_):=up_cell ((zd hI 1).trans rfl)
 have hgl:=zE hI
 clear hI hB h
 go_enter Try.func153,Try.ntmps153
 go_wp2_with fail
 refine wp_region_up zq8 zq8 ?_
 repeat (quiet_step (exact (spec_ReadVar.calls k s at_ n next ok _ H.1).mono fun e w' he=>⟨he.1,⟨w',zf (Up.below _) he.2⟩,rfl⟩))
 refine wpQuiet_nil ?_
 intro w1 hw'
 have hb1:Below w.heap.size w w1:=by
  obtain ⟨q,rfl⟩:=hw'
  exact q.below
 clear hw'
 have BI1:=zz (zj HI.1 hb1)
 have hc2:w1.cell? ⟨g,2,none⟩=some (.bool true):=(zd BI1.1 2).trans rfl
 have hc1:w1.cell? ⟨g,1,none⟩=some (.int .i64 at_):=(zd BI1.1 1).trans rfl
 have hf2:=zh BI1.1 2
 have hf1:=zh BI1.1 1
 have HB1:=zz hb1
 clear u0 u1 hb1
 go_wp2
 go_ret
 refine ⟨rfl,?_,?_,?_⟩
 ·exact zv (cs:= #[.string s,.int .i64 at_,.bool true]) BI1.1 2 _ rfl
 ·exact (HB.1.trans (HB1.1.mono HB.1.size)).setCell hg _
 ·exact (KeepBut.of_below HB1.1 g none).set_ 2 _
theorem l04Var_not (k g:Nat) (s:ByteArray) (at_:Int) (n:Int) (next:Int) (w0 w:World) (hI:w.heap[g]?=some (.cells #[.string s,.int .i64 at_,.bool false] 174 (0,0))) (hg:w0.heap.size≤g) (hB:Below w0.heap.size w0 w) (h:spec_ReadVar.f k s at_=some (n,next,false)):
  Calls Try.prog 153 #[.pointer (some ⟨g,0,none⟩)] w (RdPost w0 w g 174 (.int .i64 0) s at_ true):=by
 have HI:=zz hI
 have HB:=zz hB
 have H:=zz h
 have u0:∀q:Up w,q.W.cell? ⟨g,0,none⟩=some (.string s):=up_cell ((zd hI 0).trans rfl)
 have u1:∀q:Up w,q.W.cell? ⟨g,1,none⟩=some (.int .i64 at_):=up_cell ((zd hI 1).trans rfl)
 have hgl:=zE hI
 clear hI hB h
 go_enter Try.func153,Try.ntmps153
 go_wp2_with fail
 refine wp_region_up zq8 zq8 ?_
 repeat (quiet_step (exact (spec_ReadVar.calls k s at_ n next false _ H.1).mono fun e w' he=>⟨he.1,⟨w',zf (Up.below _) he.2⟩,rfl⟩))
 refine wpQuiet_nil ?_
 intro w1 hw'
 have hb1:Below w.heap.size w w1:=by
  obtain ⟨q,rfl⟩:=hw'
  exact q.below
 clear hw'
 have BI1:=zz (zj HI.1 hb1)
 have hc2:w1.cell? ⟨g,2,none⟩=some (.bool false):=(zd BI1.1 2).trans rfl
 have hc1:w1.cell? ⟨g,1,none⟩=some (.int .i64 at_):=(zd BI1.1 1).trans rfl
 have hf2:=zh BI1.1 2
 have hf1:=zh BI1.1 1
 have HB1:=zz hb1
 clear u0 u1 hb1
 go_wp2
 go_ret
 refine ⟨rfl,?_,?_,?_⟩
 ·exact zv (cs:= #[.string s,.int .i64 at_,.bool false]) BI1.1 2 _ rfl
 ·exact (HB.1.trans (HB1.1.mono HB.1.size)).setCell hg _
 ·exact (KeepBut.of_below HB1.1 g none).set_ 2 _
theorem l04Var_good (k g:Nat) (s:ByteArray) (at_:Int) (n:Int) (next:Int) (w0 w:World) (hI:w.heap[g]?=some (.cells #[.string s,.int .i64 at_,.bool false] 174 (0,0))) (hg:w0.heap.size≤g) (hB:Below w0.heap.size w0 w) (h:spec_ReadVar.f k s at_=some (n,next,true)):
  Calls Try.prog 153 #[.pointer (some ⟨g,0,none⟩)] w (RdPost w0 w g 174 (.int .i64 n) s next false):=by
 have HI:=zz hI
 have HB:=zz hB
 have H:=zz h
 have u0:∀q:Up w,q.W.cell? ⟨g,0,none⟩=some (.string s):=up_cell ((zd hI 0).trans rfl)
 have u1:∀q:Up w,q.W.cell? ⟨g,1,none⟩=some (.int .i64 at_):=up_cell ((zd hI 1).trans rfl)
 have hgl:=zE hI
 clear hI hB h
 go_enter Try.func153,Try.ntmps153
 go_wp2_with fail
 refine wp_region_up zq8 zq8 ?_
 repeat (quiet_step (exact (spec_ReadVar.calls k s at_ n next true _ H.1).mono fun e w' he=>⟨he.1,⟨w',zf (Up.below _) he.2⟩,rfl⟩))
 refine wpQuiet_nil ?_
 intro w1 hw'
 have hb1:Below w.heap.size w w1:=by
  obtain ⟨q,rfl⟩:=hw'
  exact q.below
 clear hw'
 have BI1:=zz (zj HI.1 hb1)
 have hc2:w1.cell? ⟨g,2,none⟩=some (.bool false):=(zd BI1.1 2).trans rfl
 have hc1:w1.cell? ⟨g,1,none⟩=some (.int .i64 at_):=(zd BI1.1 1).trans rfl
 have hf2:=zh BI1.1 2
 have hf1:=zh BI1.1 1
 have HB1:=zz hb1
 clear u0 u1 hb1
 go_wp2
 go_ret
 refine ⟨rfl,?_,?_,?_⟩
 ·exact zv (cs:= #[.string s,.int .i64 at_,.bool false]) BI1.1 1 _ rfl
 ·exact (HB.1.trans (HB1.1.mono HB.1.size)).setCell hg _
 ·exact (KeepBut.of_below HB1.1 g none).set_ 1 _
def zoa (s:ByteArray) (at_:Int) (bad:Bool) (most:Int):Int×Int×Bool:=
 if bad=false∧(rvar s at_).2.2=true∧(rvar s at_).1≤most then ((rvar s at_).1,(rvar s at_).2.1,false) else (0,at_,true)
theorem num_f (s:ByteArray) (hs:s.size≤140737488351232) (at_:Int) (bad:Bool) (most:Int):impl_reader_num.f 20 s at_ bad most=some ((zoa s at_ bad most).1,s,(zoa s at_ bad most).2.1,(zoa s at_ bad most).2.2):=by
 obtain ⟨_,h2,h3,h4⟩:=rvar_all s hs at_
 unfold impl_reader_num.f zoa
 rw [h3]
 simp only [Option.bind_some]
 cases bad
 ·by_cases c1:(rvar s at_).2.2=true
  ·by_cases c2:(rvar s at_).1>most
   ·rw [if_neg zq29,if_pos c1,if_pos c2,if_neg zq3]
   ·rw [if_neg zq29,if_pos c1,if_neg c2,if_pos ⟨rfl,c1,zq3⟩]
  ·rw [if_neg zq29,if_neg c1,if_neg (by simp [c1])]
 ·rfl
structure ReadsN (t fnum:Nat) (numArgs:Int→Array Value) (cap:Int→Int):Prop where
 num:∀(s:ByteArray) (at_:Int) (bad:Bool) (most:Int) (g:Nat) (w0 w:World),s.size≤140737488351232→w.heap[g]?=some (.cells #[.string s,.int .i64 at_,.bool bad] t (0,0))→w0.heap.size≤g→Below w0.heap.size w0 w→
  Calls Try.prog fnum (#[.pointer (some ⟨g,0,none⟩)]++numArgs most) w (RdPost w0 w g t (.int .i64 (zoa s at_ bad (cap most)).1) s (zoa s at_ bad (cap most)).2.1 (zoa s at_ bad (cap most)).2.2)
theorem impl_readsN:ReadsN 178 155 (fun most=> #[.int .i64 most]) id where
 num s at_ bad most g w0 w hs hI hg hB:=(impl_reader_num.calls 20 g s at_ bad most _ _ _ _ w0 w ⟨hI,hg⟩ hB (num_f s hs at_ bad most)).mono fun e w' ⟨h1,h2,h3,h4⟩=>⟨h1,h2.1,h3,h4⟩
theorem spec_readsN:ReadsN 174 153 (fun _=> #[]) (fun _=>1000000000) where
 num s at_ bad most g w0 w hs hI hg hB:=by
  obtain ⟨_,h2,h3,h4⟩:=rvar_all s hs at_
  cases bad with
  |true=>exact l04Var_bad 20 g s at_ _ _ _ w0 w hI hg hB h2
  |false=>
   rcases h4 with h4|⟨a,n,next,_,h4,h5,h6,h7,h8⟩
   ·have h9:zoa s at_ false 1000000000=(0,at_,true):=by unfold zoa;rw [h4];rfl
    rw [h9]
    rw [h4] at h2
    exact l04Var_not 20 g s at_ _ _ w0 w hI hg hB h2
   ·have h9:zoa s at_ false 1000000000=((n:Int),(next:Int),false):=by unfold zoa;rw [h4,if_pos ⟨rfl,rfl,by show (n:Int)≤1000000000;omega⟩]
    rw [h9]
    rw [h4] at h2
    exact l04Var_good 20 g s at_ _ _ w0 w hI hg hB h2
def bl (s:ByteArray):List Int:=bytes s 0 s.size
theorem ba_ext {a b:ByteArray} (h:a.data.toList=b.data.toList):a=b:=by
 cases a;cases b
 congr 1
 exact Array.toList_inj.1 h
theorem zSa (xs ys:List Int):strOfNums (xs++ys)=strOfNums xs++strOfNums ys:=by
 apply ba_ext
 rw [ByteArray.data_append,Array.toList_append,strOfNums_data,strOfNums_data,strOfNums_data,List.map_append]
theorem zga (s:ByteArray) {a b c:Nat} (h1:a≤b) (h2:b≤c):bytes s a c=bytes s a b++bytes s b c:=by
 obtain ⟨d,rfl⟩:∃d,c=b+d:=⟨c-b,zq3⟩
 induction d with
 |zero=>simp [bytes_nil]
 |succ d ih=>
  rw [←Nat.add_assoc,bytes_snoc s zq3,bytes_snoc s zq3,ih zq3,List.append_assoc]
theorem rNum_bad (s:ByteArray) (a most:Int):zoa s a true most=(0,a,true):=by unfold zoa;rw [if_neg zq29]
theorem zNa {s:ByteArray} (hs:s.size≤140737488351232) {at_ most:Int} (h:(zoa s at_ false most).2.2=false):∃a b n:Nat,at_=(a:Int)∧zoa s at_ false most=((n:Int),(b:Int),false)∧a<b∧b≤s.size∧bytes s a b=enc n∧(n:Int)≤most∧n≤1000000000∧rvar s at_=((n:Int),(b:Int),true):=by
 obtain ⟨_,_,_,h3⟩:=rvar_all s hs at_
 rcases h3 with h3|⟨a,n,next,h4,h5,h6,h7,h8,h9⟩
 ·unfold zoa at h
  rw [h3] at h
  cases h
 ·by_cases hm:(n:Int)≤most
  ·refine ⟨a,next,n,h4,?_,h7,h8,h9,hm,h6,h5⟩
   unfold zoa
   rw [h5,if_pos ⟨rfl,rfl,hm⟩]
  ·unfold zoa at h
   rw [h5,if_neg (fun q=>hm q.2.2)] at h
   cases h
theorem zIa (s:ByteArray):s.toList.length=s.size:=by rw [Lib.toList_data,Array.length_toList];rfl
theorem toList_app (a b:ByteArray):(a++b).toList=a.toList++b.toList:=by rw [Lib.toList_data,Lib.toList_data,Lib.toList_data,ByteArray.data_append,Array.toList_append]
theorem toList_inj' {a b:ByteArray} (h:a.toList=b.toList):a=b:=ba_ext (by rw [←Lib.toList_data,←Lib.toList_data,h])
theorem unsealed_true {t body:ByteArray} (h:zra t=(body,true)):body.size≤20000∧∀x:ByteArray,(x++sealN x).toList=t.toList↔x=body:=by
 unfold zra at h
 split at h
 ·rename_i hc
  obtain ⟨h1,h2,h3⟩:=hc
  obtain rfl:t.extract 0 (t.size-4)=body:=by injection h
  have hsz:(t.extract 0 (t.size-4)).size=t.size-4:=by rw [ByteArray.size_extract];omega
  have hsplit:t.toList=(t.extract 0 (t.size-4)).toList++(t.extract (t.size-4) t.size).toList:=by
   rw [zab t 0 _ zq3,zab t _ _ (Nat.le_refl _),←List.map_append,←zga t (Nat.zero_le _) zq3]
   have h0:=zab t 0 t.size (z2a _)
   rw [←h0]
   congr 1
   apply ba_ext
   rw [ByteArray.data_extract]
   have hs:t.size=t.data.size:=rfl
   rw [hs]
   simp
   exact (List.take_of_length_le (by rw [Array.length_toList];exact z2a _)).symm
  refine ⟨zq3,fun x=>⟨fun q=> ?_,fun q=> ?_⟩⟩
  ·rw [hsplit,toList_app] at q
   have hl:=congrArg List.length q
   rw [List.length_append,List.length_append,zIa,zIa,zIa,zIa,sealN_size,hsz,ByteArray.size_extract] at hl
   exact toList_inj' (List.append_inj q (by rw [zIa,zIa,hsz];omega)).1
  ·subst q
   rw [hsplit,toList_app,h3]
 ·cases h
theorem bcell {W w1:World} (hb:Below W.heap.size W w1):(∀b o,b<W.heap.size→w1.cell? ⟨b,o,none⟩=W.cell? ⟨b,o,none⟩)∧(∀b o,b<W.heap.size→w1.frozen? ⟨b,o,none⟩=W.frozen? ⟨b,o,none⟩):=
 ⟨fun b o h=>hb.cell (p:=⟨b,o,none⟩) h,fun b o h=>hb.frozen (p:=⟨b,o,none⟩) h⟩
structure FSt where
 at_:Int
 bad:Bool
 xs:List Int
structure GSt where
 at_:Int
 bad:Bool
 fs:List S122
def fStep (s:ByteArray) (st:FSt):FSt:=⟨(zoa s st.at_ st.bad 1000000000).2.1,(zoa s st.at_ st.bad 1000000000).2.2,st.xs++[(zoa s st.at_ st.bad 1000000000).1]⟩
def fRun (stop:Bool) (s:ByteArray):Nat→FSt→FSt
 |0,st=>st
 |n+1,st=>if stop=true∧st.bad=true then st else fRun stop s n (fStep s st)
def gP (s:ByteArray) (st:GSt):Int×Int×Bool:=zoa s st.at_ st.bad 1000000000
def gK (mk:Int) (s:ByteArray) (st:GSt):Int×Int×Bool:=zoa s (gP s st).2.1 (gP s st).2.2 mk
def gF (stop:Bool) (mk:Int) (s:ByteArray) (st:GSt):FSt:=fRun stop s (min (gK mk s st).1.toNat 50) ⟨(gK mk s st).2.1,(gK mk s st).2.2,[]⟩
def gStep (stop:Bool) (mk:Int) (s:ByteArray) (st:GSt):GSt:=⟨(gF stop mk s st).at_,(gF stop mk s st).bad,st.fs++[⟨(gP s st).1,(gF stop mk s st).xs⟩]⟩
def zhb (stop:Bool) (mk:Int) (s:ByteArray):Nat→GSt→GSt
 |0,st=>st
 |n+1,st=>if stop=true∧st.bad=true then st else zhb stop mk s n (gStep stop mk s st)
theorem rNum_nn {s:ByteArray} (hs:s.size≤140737488351232) (at_:Int) (bad:Bool) (most:Int):0≤(zoa s at_ bad most).1:=by
 cases bad with
 |true=>rw [rNum_bad];exact Int.le_refl _
 |false=>
  cases hb:(zoa s at_ false most).2.2 with
  |false=>obtain ⟨a,b,n,g1,g2,g3,g4,_⟩:=zNa hs hb;rw [g2];exact Int.natCast_nonneg _
  |true=>
   unfold zoa at hb ⊢
   split at hb
   ·cases hb
   ·rename_i hc
    rw [if_neg hc]
    exact Int.le_refl _
theorem rNum_le (s:ByteArray) (at_:Int) (bad:Bool) {most:Int} (hm:0≤most):(zoa s at_ bad most).1≤most:=by
 unfold zoa
 split
 ·rename_i h
  exact h.2.2
 ·exact hm
structure MInv (w0 W:World) (gM gR t:Nat) (s:ByteArray) (a b c:Int) (v3:Value) (at_:Int) (bad:Bool) (fs:List S122):Prop where
 bM:W.heap[gM]?=some (.cells #[.int .i64 a,.int .i64 b,.int .i64 c,v3] 53 (0,0))
 bR:W.heap[gR]?=some (.cells #[.string s,.int .i64 at_,.bool bad] t (0,0))
 hR:w0.heap.size≤gR
 hM:gR<gM
 rf:Kd.S k122 122 W w0.heap.size (fun k=>gM<k) v3 fs
 bel:Below w0.heap.size w0 W
structure FInv (w0 W:World) (gM gR gF t:Nat) (s:ByteArray) (a b c:Int) (v3:Value) (at_:Int) (bad:Bool) (fs:List S122) (p:Int) (v1:Value) (ks:List Int):Prop where
 bM:W.heap[gM]?=some (.cells #[.int .i64 a,.int .i64 b,.int .i64 c,v3] 53 (0,0))
 bR:W.heap[gR]?=some (.cells #[.string s,.int .i64 at_,.bool bad] t (0,0))
 hR:w0.heap.size≤gR
 hM:gR<gM
 bF:W.heap[gF]?=some (.cells #[.int .i64 p,v1] 122 (0,0))
 hF:gM<gF
 rf:Kd.S k122 122 W w0.heap.size (fun k=>gM<k∧k<gF) v3 fs
 rk:Kd.R (Kd.int .i64) 3 W w0.heap.size (fun k=>gF<k) v1 ks
 bel:Below w0.heap.size w0 W
section
variable {w0 W W' W1:World} {gM gR gF t:Nat} {s:ByteArray} {a b c p:Int} {v3 v1:Value} {at_ at':Int} {bad bad':Bool} {fs:List S122} {ks:List Int}
theorem MInv.below (h:MInv w0 W gM gR t s a b c v3 at_ bad fs) (hb:Below W.heap.size W W'):MInv w0 W' gM gR t s a b c v3 at_ bad fs:=
 ⟨zj h.bM hb,zj h.bR hb,h.hR,h.hM,Kd.S_below h.rf hb,h.bel.trans (hb.mono h.bel.size)⟩
theorem MInv.read (h:MInv w0 W gM gR t s a b c v3 at_ bad fs) (hb:W'.heap[gR]?=some (.cells #[.string s,.int .i64 at',.bool bad'] t (0,0))) (hbel:Below w0.heap.size w0 W') (hk:KeepBut W W' gR none):MInv w0 W' gM gR t s a b c v3 at' bad' fs:=by
 have:=h.hM
 exact ⟨KeepBut.blk hk h.bM zq3 zq29,hb,h.hR,h.hM,Kd.S_keep h.rf hk (fun k hk=>by omega),hbel⟩
theorem MInv.begin (bR:W.heap[gR]?=some (.cells #[.string s,.int .i64 at_,.bool bad] t (0,0))) (hR:w0.heap.size≤gR) (bel:Below w0.heap.size w0 W) (a:Int):MInv w0 (W.alloc (.cells #[.int .i64 a,.int .i64 0,.int .i64 0,.slice none 0 0] 53)) W.heap.size gR t s a 0 0 (.slice none 0 0) at_ bad []:=
 ⟨zM _ _,zo bR _,hR,zE bR,Kd.S_nil _ _ _ _ _,zi bel _⟩
theorem MInv.put1 (h:MInv w0 W gM gR t s a b c v3 at_ bad fs) (b':Int):MInv w0 (W.setCell ⟨gM,1,none⟩ (.int .i64 b')) gM gR t s a b' c v3 at_ bad fs:=by
 have:=h.hM
 have:=h.hR
 exact ⟨zv h.bM 1 _ rfl,zqb h.bR (p:=⟨gM,1,none⟩) (by show gR≠gM;omega) _,h.hR,h.hM,Kd.S_far h.rf (p:=⟨gM,1,none⟩) (fun k hk=>by show k≠gM;omega) _,zD h.bel zq3⟩
theorem MInv.put2 (h:MInv w0 W gM gR t s a b c v3 at_ bad fs) (c':Int):MInv w0 (W.setCell ⟨gM,2,none⟩ (.int .i64 c')) gM gR t s a b c' v3 at_ bad fs:=by
 have:=h.hM
 have:=h.hR
 exact ⟨zv h.bM 2 _ rfl,zqb h.bR (p:=⟨gM,2,none⟩) (by show gR≠gM;omega) _,h.hR,h.hM,Kd.S_far h.rf (p:=⟨gM,2,none⟩) (fun k hk=>by show k≠gM;omega) _,zD h.bel zq3⟩
theorem MInv.free (h:MInv w0 W gM gR t s a b c v3 at_ bad fs) (p:Int):FInv w0 (W.alloc (.cells #[.int .i64 p,.slice none 0 0] 122)) gM gR W.heap.size t s a b c v3 at_ bad fs p (.slice none 0 0) []:=
 ⟨zo h.bM _,zo h.bR _,h.hR,h.hM,zM _ _,zE h.bM,Kd.S_alloc (Kd.S_mono (Kd.S_bound h.rf) (fun k hk=>⟨hk.1,hk.2.2.1⟩)) _,Kd.R_nil _ _ _ _ _,zi h.bel _⟩
theorem FInv.below (h:FInv w0 W gM gR gF t s a b c v3 at_ bad fs p v1 ks) (hb:Below W.heap.size W W'):FInv w0 W' gM gR gF t s a b c v3 at_ bad fs p v1 ks:=
 ⟨zj h.bM hb,zj h.bR hb,h.hR,h.hM,zj h.bF hb,h.hF,Kd.S_below h.rf hb,Kd.R_below h.rk hb,h.bel.trans (hb.mono h.bel.size)⟩
theorem FInv.drew (h:FInv w0 W gM gR gF t s a b c v3 at_ bad fs p v1 ks):FInv w0 W.drew gM gR gF t s a b c v3 at_ bad fs p v1 ks:=h.below (z0a _ _).drew
theorem FInv.read (h:FInv w0 W gM gR gF t s a b c v3 at_ bad fs p v1 ks) (hb:W'.heap[gR]?=some (.cells #[.string s,.int .i64 at',.bool bad'] t (0,0))) (hbel:Below w0.heap.size w0 W') (hk:KeepBut W W' gR none):FInv w0 W' gM gR gF t s a b c v3 at' bad' fs p v1 ks:=by
 have:=h.hM
 have:=h.hF
 exact ⟨KeepBut.blk hk h.bM zq3 zq29,hb,h.hR,h.hM,KeepBut.blk hk h.bF zq3 zq29,h.hF,Kd.S_keep h.rf hk (fun k hk=>by omega),Kd.R_keep h.rk hk (fun k hk=>by omega),hbel⟩
theorem FInv.push (h:FInv w0 W gM gR gF t s a b c v3 at_ bad fs p v1 ks) {v':Value} {xs:List Int} (hr:Kd.R (Kd.int .i64) 3 W1 w0.heap.size (fun k=>gF<k) v' xs) (hb:Below w0.heap.size w0 W1) (hg:W.grownBy W1 v1.ownBlock):
  FInv w0 (W1.setCell ⟨gF,1,none⟩ v') gM gR gF t s a b c v3 at_ bad fs p v' xs:=by
 have h1:=h.hM
 have h2:=h.hF
 have h3:=h.hR
 have ho:=h.rk.1
 have e1:some gM≠v1.ownBlock:=fun e=>by have:=ho _ e.symm;omega
 have e2:some gR≠v1.ownBlock:=fun e=>by have:=ho _ e.symm;omega
 have e3:some gF≠v1.ownBlock:=fun e=>by have:=ho _ e.symm;omega
 exact ⟨zqb (zaa h.bM hg e1) (p:=⟨gF,1,none⟩) (by show gM≠gF;omega) _,zqb (zaa h.bR hg e2) (p:=⟨gF,1,none⟩) (by show gR≠gF;omega) _,h.hR,h.hM,zv (zaa h.bF hg e3) 1 _ rfl,h.hF,
  Kd.S_far (Kd.S_grown h.rf hg (fun k hk e=>by have:=ho _ e.symm;omega)) (p:=⟨gF,1,none⟩) (fun k hk=>by show k≠gF;omega) _,Kd.R_step hr (fun k hk _=>Below.heap_setCell W1 ⟨gF,1,none⟩ v' k (by show k≠gF;omega)),zD hb zq3⟩
theorem FInv.close (h:FInv w0 W gM gR gF t s a b c v3 at_ bad fs p v1 ks) {v':Value} {xs:List S122} (hr:Kd.S k122 122 W1 w0.heap.size (fun k=>gM<k) v' xs) (hb:Below w0.heap.size w0 W1) (hg:W.grownBy W1 v3.ownBlock):
  MInv w0 (W1.setCell ⟨gM,3,none⟩ v') gM gR t s a b c v' at_ bad xs:=by
 have h1:=h.hM
 have h3:=h.hR
 have ho:∀k,v3.ownBlock=some k→gM<k∧k<gF:=h.rf.choose_spec.1
 have e1:some gM≠v3.ownBlock:=fun e=>by have:=ho _ e.symm;omega
 have e2:some gR≠v3.ownBlock:=fun e=>by have:=ho _ e.symm;omega
 exact ⟨zv (zaa h.bM hg e1) 3 _ rfl,zqb (zaa h.bR hg e2) (p:=⟨gM,3,none⟩) (by show gR≠gM;omega) _,h.hR,h.hM,
  Kd.S_step hr (fun k hk _=>Below.heap_setCell W1 ⟨gM,3,none⟩ v' k (by show k≠gM;omega)),zD hb zq3⟩
variable {ops:Array Oper} {rest:List Oper} {o:Oper} {x:Act} {Q:Exit→Act→World→Prop}
theorem free_app (hgd:o.guard=none) (y z:Operand) (ho:o.op= .call {callee:= .builtin .append,args:= #[y,z],argTypes:= #[51,51]}) (hs:x.eval y=v3) (hy:x.eval z= .slice (some ⟨W.heap.size,0,none⟩) 1 1)
 (h:FInv w0 W gM gR gF t s a b c v3 at_ bad fs p v1 ks) (hl:fs.length≤2000000)
 (hk:∀v' w1,Z0 (Kd.S k122 122 w1 w0.heap.size (fun k=>gM<k) v' (fs++[⟨p,ks⟩]))→Z0 (Below w0.heap.size w0 w1)→Z0 (W.grownBy w1 v3.ownBlock)→Z0 (w1.heap[gM]?=some (.cells #[.int .i64 a,.int .i64 b,.int .i64 c,v3] 53 (0,0)))→wpList Try.prog ops Q rest (x.put o.dst v') w1):
 wpList Try.prog ops Q (o::rest) x (W.alloc (.cells #[.int .i64 p,v1] 122)):=by
 have h1:=h.hM
 have h2:=h.hF
 have ho':∀k,v3.ownBlock=some k→gM<k∧k<gF:=h.rf.choose_spec.1
 refine Kd.S_append k122 (w0:=w0) w0.heap.size hgd y z 51 122 (.agg #[.int .i64 0,.slice none 0 0]) 32 ho Try.underlying51 info122 rfl zq32 zq32 v3 fs (⟨p,ks⟩:S122) [.int .i64 p,v1] (fun k=>gM<k) (fun k=>gF<k) hs hy (k122_mkM _ _ _ (⟨p,ks⟩:S122) h.rk) (fun k hk=>⟨zq3,fun e=>by have:=ho' _ e.symm;omega⟩) (fun k hk=>z3a (zE h.bM) hk) (Kd.S_mono h.rf (fun k hk=>⟨hk.1,zq3⟩)) h.bel h.bel.size zq3 ?_
 intro v' w1 hr hb hg hat
 exact hk v' w1 ⟨hr⟩ ⟨hb⟩ ⟨hg⟩ ⟨zaa h.bM hg (fun e=>by have:=ho' _ e.symm;omega)⟩
end
def zda (w:World) (m:S53) (ok:Bool) (e:Ending) (w':World):Prop:=
 ∃A c,e= .returned (.tuple #[.agg #[.int .i64 m.f0,.int .i64 m.f1,.int .i64 m.f2,.slice A m.f3.length c],.bool ok])∧Kd.S k122 122 w' w.heap.size (fun _=>True) (.slice A m.f3.length c) m.f3∧Below w.heap.size w w'
theorem m_done {w W:World} {o:Obj} {gM gR t:Nat} {s:ByteArray} {a b c:Int} {v3:Value} {at_:Int} {bad:Bool} {fs:List S122} (h:MInv (w.alloc o) W gM gR t s a b c v3 at_ bad fs) {u0 u1 u2 u3:Value}:
  Kd.S k122 122 ((((W.setCell ⟨w.heap.size,0,none⟩ u0).setCell ⟨w.heap.size,1,none⟩ u1).setCell ⟨w.heap.size,2,none⟩ u2).setCell ⟨w.heap.size,3,none⟩ u3) w.heap.size (fun _=>True) v3 fs∧Below w.heap.size w ((((W.setCell ⟨w.heap.size,0,none⟩ u0).setCell ⟨w.heap.size,1,none⟩ u1).setCell ⟨w.heap.size,2,none⟩ u2).setCell ⟨w.heap.size,3,none⟩ u3):=by
 have h1:=h.hR
 have h2:=h.hM
 have h3:(w.alloc o).heap.size=w.heap.size+1:=zq29
 have hne:∀j k,gM<k→k≠(⟨w.heap.size,j,none⟩:Addr).block:=fun j k hk=>by show k≠w.heap.size;omega
 have hb:Below w.heap.size w W:=zf (zi (z0a _ _) o) h.bel
 exact ⟨Kd.S_lower (Kd.S_mono (Kd.S_far (Kd.S_far (Kd.S_far (Kd.S_far h.rf (hne 0) u0) (hne 1) u1) (hne 2) u2) (hne 3) u3) (fun _ _=>trivial)) zq3,
  zD (zD (zD (zD hb (z2a _)) (z2a _)) (z2a _)) (z2a _)⟩
theorem m_post {w w':World} {m:S53} {ok:Bool} {A:Option Addr} {c:Nat} (h:Kd.S k122 122 w' w.heap.size (fun _=>True) (.slice A m.f3.length c) m.f3∧Below w.heap.size w w'):
  zda w m ok (.returned (.tuple #[.agg #[.int .i64 m.f0,.int .i64 m.f1,.int .i64 m.f2,.slice A m.f3.length c],.bool ok])) w':=⟨A,c,rfl,h.1,h.2⟩
theorem m_zero {w w':World} {ok:Bool} (h:Below w.heap.size w w'):
  zda w ⟨0,0,0,[]⟩ ok (.returned (.tuple #[.agg #[.int .i64 0,.int .i64 0,.int .i64 0,.slice none 0 0],.bool ok])) w':=⟨none,0,rfl,Kd.S_nil _ _ _ _ _,h⟩
theorem m_res {w W:World} {gM gR t:Nat} {s:ByteArray} {a b c:Int} {v3:Value} {at_:Int} {bad:Bool} {fs:List S122} {cs:Array Value} (h:MInv (w.alloc (.cells cs 53)) W gM gR t s a b c v3 at_ bad fs):W.heap[w.heap.size]?=some (.cells cs 53 (0,0)):=(h.bel.block w.heap.size zq29).trans (zM w _)
def impl_ReadMeta.T11:Bool×List (List Nat×List Nat):=(true,[([],[]),([0],[0]),([],[]),([2],[2]),([3],[3]),([1,4,3],[1,4]),([0,1,2,3,4,5],[]),([6,5,5,0,1,2,3,4,5],[5,6])])
def impl_ReadMeta.B11:List Nat:=[0,1,0,4,12,31,63,127]
theorem impl_ReadMeta.ok11_0:regB (zgb Try.f119 11) impl_ReadMeta.T11 impl_ReadMeta.B11 [7] [.p 0,.p 2,.t 1,.e 3,.e 4,.e 5,.p 6,.l 7]=true:=zq8
theorem info3r_:(Try.prog.info? 3).map (fun i=>(i.zero,i.size,i.bytes))=some (some (.int .i64 0),1,8):=zq8
theorem zva {s:ByteArray} {at_:Int} {bad:Bool} {most:Int} {g:Nat} {w0 w:World} {x a1:Int} {b1:Bool} (hr:zoa s at_ bad most=(x,a1,b1)) (hs:s.size≤140737488351232) (hI:w.heap[g]?=some (.cells #[.string s,.int .i64 at_,.bool bad] 178 (0,0))) (hg:w0.heap.size≤g) (hB:Below w0.heap.size w0 w):
  Calls Try.prog 155 #[.pointer (some ⟨g,0,none⟩),.int .i64 most] w (RdPost w0 w g 178 (.int .i64 x) s a1 b1):=by
 have h:=impl_readsN.num s at_ bad most g w0 w hs hI hg hB
 simp only [id,hr] at h
 exact h
theorem implReadMeta_c (k:Nat) (t body:ByteArray) (ok0:Bool) (w:World) (hu:impl_Unsealed.f k t=some (body,ok0)) (hs:body.size≤140737488351232) (a b c a1 a2 a3 a4:Int) (b1 b2 b3 b4:Bool) (ha:zoa body 0 (!ok0) 1000000000=(a,a1,b1)) (hb:zoa body a1 b1 1000000000=(b,a2,b2)) (hc:zoa body a2 b2 1000000000=(c,a3,b3)) (K:Nat) (hn:zoa body a3 b3 20=((K:Int),a4,b4)) (hK:K≤20)
  (at_:Int) (bad:Bool) (fs:List S122) (hg:zhb false 40 body K ⟨a4,b4,[]⟩=⟨at_,bad,fs⟩) (tx:ByteArray) (okt:Bool) (ft:∃(k1:Nat) (vt:Int→ByteArray) (sl:ByteArray→ByteArray),TxF k1 vt sl∧MTxt vt sl ⟨a,b,c,fs⟩ tx okt)
  (m:S53) (ok:Bool) (hres:(bad=false∧at_=(body.size:Int)∧okt=true∧tx.toList=t.toList∧m=⟨a,b,c,fs⟩∧ok=true)∨((bad=true∨¬at_=(body.size:Int)∨okt=false∨¬tx.toList=t.toList)∧m=⟨0,0,0,[]⟩∧ok=false)):
  Calls Try.prog 119 #[.string t] w (zda w m ok):=by
 have HU:=zz hu
 have HA:=zz ha
 have HB:=zz hb
 have HC:=zz hc
 have HK:=zz hn
 have HG:=zz hg
 have FT:=zz ft
 have HRES:=zz hres
 clear hu ha hb hc hn hg ft hres
 go_enter Try.func119,Try.ntmps119
 go_wp2_with fail
 ((with_reducible refine (impl_Unsealed.calls k t body ok0 _ HU.1).mono ?_);rintro e w1 ⟨rfl,hb1⟩)
 obtain ⟨hc1,hf1⟩:=bcell hb1
 have hz1:w.heap.size<w1.heap.size:=zq83
 have HB1:=zz hb1
 clear hb1
 go_wp2_with fail
 have bR0:=zz (zM w1 (.cells #[.string body,.int .i64 0,.bool (!ok0)] 178))
 have bel0:=zz (zi HB1.1 (.cells #[.string body,.int .i64 0,.bool (!ok0)] 178))
 have hR0:=zz (show ((w.alloc (.cells #[.int .i64 0,.int .i64 0,.int .i64 0,.slice none 0 0] 53))).heap.size≤w1.heap.size by simp;omega)
 ((with_reducible refine (zva HA.1 hs bR0.out hR0.out bel0.out).mono ?_);rintro e wm ⟨rfl,hI2,hb2,hk2⟩)
 have HM0:=zz (MInv.begin hI2 hR0.out hb2 a)
 have hzm:w1.heap.size<wm.heap.size:=zE hI2
 clear hI2 hb2 hk2 hc1 hf1 bR0 bel0
 go_wp2_with fail
 ((with_reducible refine (zva HB.1 hs HM0.1.bR HM0.1.hR HM0.1.bel).mono ?_);rintro e wn0 ⟨rfl,hI2,hb2,hk2⟩)
 have HR0:=zz (HM0.1.read hI2 hb2 hk2)
 clear hI2 hb2 hk2 HM0
 have hs1:wn0.cell? ⟨wm.heap.size,1,none⟩=some (.int .i64 0):=(zd HR0.1.bM 1).trans rfl
 have hf1:=zh HR0.1.bM 1
 have hl1:=zE HR0.1.bM
 go_wp2_with fail
 have HM1:=zz (HR0.1.put1 b)
 generalize wn0.setCell ⟨wm.heap.size,1,none⟩ _=wp0 at HM1 ⊢
 clear hs1 hf1 HR0 hl1
 ((with_reducible refine (zva HC.1 hs HM1.1.bR HM1.1.hR HM1.1.bel).mono ?_);rintro e wn1 ⟨rfl,hI2,hb2,hk2⟩)
 have HR1:=zz (HM1.1.read hI2 hb2 hk2)
 clear hI2 hb2 hk2 HM1
 have hs1:wn1.cell? ⟨wm.heap.size,2,none⟩=some (.int .i64 0):=(zd HR1.1.bM 2).trans rfl
 have hf1:=zh HR1.1.bM 2
 have hl1:=zE HR1.1.bM
 go_wp2_with fail
 have HM2:=zz (HR1.1.put2 c)
 generalize wn1.setCell ⟨wm.heap.size,2,none⟩ _=wp1 at HM2 ⊢
 clear hs1 hf1 HR1 hl1
 ((with_reducible refine (zva HK.1 hs HM2.1.bR HM2.1.hR HM2.1.bel).mono ?_);rintro e wl ⟨rfl,hI2,hb2,hk2⟩)
 have HM3:=zz (HM2.1.read hI2 hb2 hk2)
 clear hI2 hb2 hk2 HM2
 go_wp2_with fail
 go_loopg [32] K (fun gg s32 wr=>∃(i:Nat) (st:GSt) (A:Option Addr) (cc:Nat),i≤K∧K-i≤gg∧s32= .int .i64 i∧Z0 (zhb false 40 body (K-i) st=⟨at_,bad,fs⟩)∧Z0 (st.fs.length=i)∧Z0 (MInv (w.alloc (.cells #[.int .i64 0,.int .i64 0,.int .i64 0,.slice none 0 0] 53)) wr wm.heap.size w1.heap.size 178 body a b c (.slice A st.fs.length cc) st.at_ st.bad st.fs))
 case atStart=>exact ⟨0,⟨a4,b4,[]⟩,none,0,z7a _,zq3,rfl,HG,⟨rfl⟩,HM3⟩
 case round=>
  clear HM3 HG
  obtain ⟨i,st,A,cc,hi,hgg,rfl,HRun,HLen,HN⟩:=hrel
  by_cases hlt:i<K
  ·have hltz:(i:Int)<(K:Int):=zq3
   obtain ⟨sa,sb,sf⟩:=st
   simp only at HRun HLen HN
   obtain ⟨p,p1,p2,hp⟩:∃p p1 p2,zoa body sa sb 1000000000=(p,p1,p2):=⟨_,_,_,rfl⟩
   obtain ⟨kq,q1,q2,hq⟩:∃kq q1 q2,zoa body p1 p2 40=(kq,q1,q2):=⟨_,_,_,rfl⟩
   have hk0:0≤kq:=by have:=rNum_nn hs p1 p2 40;rw [hq] at this;exact this
   have hk1:kq≤40:=by have:=rNum_le body p1 p2 (show (0:Int)≤40 by decide);rw [hq] at this;exact this
   obtain ⟨kn,rfl⟩:=Int.eq_ofNat_of_zero_le hk0
   obtain ⟨⟨fa,fb,fx⟩,hF⟩:∃q,fRun false body kn ⟨q1,q2,[]⟩=q:=⟨_,rfl⟩
   have HStep:=zz (show zhb false 40 body (K-(i+1)) ⟨fa,fb,sf++[⟨p,fx⟩]⟩=⟨at_,bad,fs⟩ by
    have h:=HRun.1
    rw [show K-i=(K-(i+1))+1 by omega,zhb,if_neg zq29] at h
    have e1:gP body ⟨sa,sb,sf⟩=(p,p1,p2):=hp
    have e2:gK 40 body ⟨sa,sb,sf⟩=((kn:Int),q1,q2):=by unfold gK;rw [e1];exact hq
    have e3:gF false 40 body ⟨sa,sb,sf⟩=⟨fa,fb,fx⟩:=by unfold gF;rw [e2];simp only [Int.toNat_natCast];rw [Nat.min_eq_left zq3];exact hF
    unfold gStep at h
    rw [e3,e1] at h
    exact h)
   have HP:=zz hp
   have HQ:=zz hq
   have HF_:=zz hF
   have HK1:=zz (show kn≤40 by omega)
   clear hp hq hF hk0 hk1 HRun
   go_wp2_with fail
   ((with_reducible refine (zva HP.1 hs HN.1.bR HN.1.hR HN.1.bel).mono ?_);rintro e w2 ⟨rfl,hI2,hb2,hk2⟩)
   have HN1:=zz (HN.1.read hI2 hb2 hk2)
   clear hI2 hb2 hk2 HN
   go_wp2_with fail
   have HF0:=zz (HN1.1.free p)
   clear HN1
   ((with_reducible refine (zva HQ.1 hs HF0.1.bR HF0.1.hR HF0.1.bel).mono ?_);rintro e w3 ⟨rfl,hI2,hb2,hk2⟩)
   have HF1:=zz (HF0.1.read hI2 hb2 hk2)
   clear hI2 hb2 hk2 HF0
   go_wp2_with fail
   go_loopg [39] kn (fun gg s39 wi=>∃(j:Nat) (sx:FSt) (A1:Option Addr) (c1:Nat),j≤kn∧kn-j≤gg∧s39= .int .i64 j∧Z0 (fRun false body (kn-j) sx=⟨fa,fb,fx⟩)∧Z0 (sx.xs.length=j)∧Z0 (FInv (w.alloc (.cells #[.int .i64 0,.int .i64 0,.int .i64 0,.slice none 0 0] 53)) wi wm.heap.size w1.heap.size w2.heap.size 178 body a b c (.slice A sf.length cc) sx.at_ sx.bad sf p (.slice A1 sx.xs.length c1) sx.xs))
   case atStart=>exact ⟨0,⟨q1,q2,[]⟩,none,0,z7a _,zq3,rfl,HF_,⟨rfl⟩,HF1⟩
   case round=>
    clear HF1 HF_
    obtain ⟨j,sx,A1,c1,hj,hgj,rfl,HRj,HLj,HF⟩:=hrel
    by_cases hlj:j<kn
    ·have hltj:(j:Int)<(kn:Int):=zq3
     obtain ⟨xa,xb,xs1⟩:=sx
     simp only at HRj HLj HF
     obtain ⟨x1,y1,y2,hx⟩:∃x1 y1 y2,zoa body xa xb 1000000000=(x1,y1,y2):=⟨_,_,_,rfl⟩
     have HSj:=zz (show fRun false body (kn-(j+1)) ⟨y1,y2,xs1++[x1]⟩=⟨fa,fb,fx⟩ by
      have h:=HRj.1
      rw [show kn-j=(kn-(j+1))+1 by omega,fRun,if_neg zq29] at h
      unfold fStep at h
      simp only [hx] at h
      exact h)
     have HX:=zz hx
     clear hx HRj
     go_wp2_with fail
     have hNd:=zz HF.1.drew
     clear HF
     refine zsa impl_ReadMeta.ok11_0 (S:=fun w'=>w'.cell? ⟨w2.heap.size,0,none⟩=some (.int .i64 p)∧w'.cell? ⟨w2.heap.size,1,none⟩=some (.slice A1 xs1.length c1)) zq8 (fun _ _ _ _ h=>h) ⟨(zd hNd.out.bF 0).trans rfl,(zd hNd.out.bF 1).trans rfl⟩ (fun hHeld=> ?_)
     generalize wr.drew=wd at hNd hHeld ⊢
     iterate 2 (refine zY (v:= ?_) (a':= ?_) rfl rfl (Or.inl ⟨zq19,zq5⟩) zq2 ?_)
     (refine zQa (v:= ?_) (a':= ?_) rfl rfl (Or.inl ⟨zq19,zq57⟩) zq2 ?_)
     refine zX rfl rfl Try.func155 zq8 rfl #[.pointer (some ⟨w1.heap.size,0,none⟩),.int .i64 1000000000] zq19 rfl zq20 ?_
     with_reducible refine (zva HX.1 hs hNd.out.bR hNd.out.hR hNd.out.bel).mono ?_
     rintro e wc ⟨rfl,hIc,hbc,hkc⟩
     have hNc:=zz (hNd.out.read hIc hbc hkc)
     clear hNd hIc hbc hkc
     refine ⟨_,rfl,⟨(zd hNc.out.bF 0).trans rfl,(zd hNc.out.bF 1).trans rfl⟩,(fun hHeld=> ?_)⟩
     refine zR (a':= ?_) zq2 ?_
     refine seq_e rfl rfl (fun K hK=> ?_)
     refine value_ (w1:= ?_) (v:= ?_) zq19 rfl ?_ ?_
     rotate_left 2
     ·go_simp
      constructor
      ·rfl
      ·rfl
     refine hK.out _ _ ⟨(zd (zo hNc.out.bF _) 0).trans rfl,(zd (zo hNc.out.bF _) 1).trans rfl⟩ (fun hHeld=> ?_)
     clear hK K
     refine zR (a':= ?_) zq2 ?_
     refine seq_e rfl rfl (fun K hK=> ?_)
     refine Kd.R_append_step (Kd.int .i64) (w0:=(w.alloc (.cells #[.int .i64 0,.int .i64 0,.int .i64 0,.slice none 0 0] 53))) ((w.alloc (.cells #[.int .i64 0,.int .i64 0,.int .i64 0,.slice none 0 0] 53))).heap.size zq19 (.tmp 42) (.tmp 45) 26 3 (.int .i64 0) 8 rfl Try.underlying26 info3r_ rfl zq32 zq3 (.slice A1 xs1.length c1) xs1 x1 [.int .i64 x1] (fun k=>w2.heap.size<k) (fun _=>False) rfl rfl ?aP (fun _ hk=>hk.elim) ?aF ?aO ?aB ?aS ?aL ?_
     (case aP=>exact rfl)
     (case aF=>exact (fun k hk=>z3a (zE hNc.out.bF) hk))
     (case aO=>exact hNc.out.rk)
     (case aB=>exact hNc.out.bel)
     (case aS=>exact hNc.out.bel.size)
     (case aL=>have:=HLj.1;have:=HK1.1;omega)
     intro va wa ho hb hg hat
     have bNa:=zz (zaa hNc.out.bF hg (fun e=>by have:=hNc.out.rk.1 _ e.symm;omega))
     obtain ⟨ks1,hks⟩:∃z,z=xs1++[x1]:=⟨_,rfl⟩
     rw [←hks] at ho
     have HKS:=zz hks
     clear hks
     obtain ⟨Ao,co,eo⟩:=Kd.R_slice ho
     subst eo
     have hNs:=zz (hNc.out.push ho hb hg)
     clear ho hb hg hat
     refine hK.out _ _ ⟨(zd bNa.out 0).trans rfl,(zd bNa.out 1).trans rfl⟩ (fun hHeld=> ?_)
     clear hK K
     refine zR (a':= ?_) zq2 ?_
     (refine zY (v:= ?_) (a':= ?_) rfl rfl (Or.inl ⟨zq19,zq5⟩) zq2 ?_)
     refine seq_l rfl rfl (fun K hK=> ?_)
     have hs1:wa.cell? ⟨w2.heap.size,1,none⟩=some (.slice A1 xs1.length c1):=(zd bNa.out 1).trans rfl
     have hf1:=zh bNa.out 1
     refine skip_ (w1:= ?_) zq19 rfl ?_ ?_
     rotate_left
     ·go_simp
      rfl
     refine hK.out _ _ ?_
     clear hK K
     refine zKa ?_
     clear hNc bNa hs1 hf1 hHeld
     generalize wa.setCell ⟨w2.heap.size,1,none⟩ _=w7 at hNs ⊢
     have HF2:=zz hNs.out
     clear hNs
     go_wp2
     have hw:wrap64 ((j:Int)+1)=((j+1:Nat):Int):=by have:=HK1.1;unfold wrap64;omega
     have HW:=zz hw
     clear hw
     go_roundg (kn-(j+1))
     case measure=>omega
     case rel=>exact ⟨j+1,⟨y1,y2,ks1⟩,Ao,co,zq3,zq3,zq78,⟨by rw [HKS.1];exact HSj.1⟩,⟨by show ks1.length=j+1;rw [HKS.1,List.length_append];have:=HLj.1;simp;omega⟩,HF2⟩
    ·have hltj:¬(j:Int)<(kn:Int):=zq3
     have:j=kn:=zq3
     subst this
     have hfin:sx=⟨fa,fb,fx⟩:=by have h:=HRj.1;rw [Nat.sub_self,fRun] at h;exact h
     subst hfin
     simp only at HF HLj
     clear HRj
     have hm3:wr.cell? ⟨wm.heap.size,3,none⟩=some (.slice A sf.length cc):=(zd HF.1.bM 3).trans rfl
     have hx0:wr.cell? ⟨w2.heap.size,0,none⟩=some (.int .i64 p):=(zd HF.1.bF 0).trans rfl
     have hx1:wr.cell? ⟨w2.heap.size,1,none⟩=some (.slice A1 fx.length c1):=(zd HF.1.bF 1).trans rfl
     go_wp2_with (first|((with_reducible refine zfa (b:= .append) (xs:= #[.tmp 50,.tmp 52]) rfl ?_);at_builtin;refine free_app rfl (.tmp 50) (.tmp 52) rfl rfl rfl HF.1 (by have:=HLen.1;omega) ?_;intro v' w4 HS4 HB4 HG4 HC4;obtain ⟨sf1,hsf⟩:∃z,z=sf++[(⟨p,fx⟩:S122)]:=⟨_,rfl⟩;rw [←hsf] at HS4;have HSF:=zz hsf;clear hsf;obtain ⟨A9,c9,e9⟩:=Kd.S_slice HS4.1;subst e9;have hs4:w4.cell? ⟨wm.heap.size,3,none⟩=some (.slice A sf.length cc):=(zd HC4.1 3).trans rfl;have hf4:=zh HC4.1 3;clear hm3 hx0 hx1))
     have HN2:=zz (HF.1.close HS4.1 HB4.1 HG4.1)
     generalize w4.setCell ⟨wm.heap.size,3,none⟩ _=w5 at HN2 ⊢
     clear hs4 hf4 HF HS4 HB4 HG4 HC4
     have hw:wrap64 ((i:Int)+1)=((i+1:Nat):Int):=zq79
     have HW:=zz hw
     clear hw
     go_roundg (K-(i+1))
     case measure=>omega
     case rel=>exact ⟨i+1,⟨fa,fb,sf1⟩,A9,c9,zq3,zq3,zq78,⟨by rw [HSF.1];exact HStep.1⟩,⟨by show sf1.length=i+1;rw [HSF.1,List.length_append];have:=HLen.1;simp;omega⟩,HN2⟩
  ·have hltz:¬(i:Int)<(K:Int):=zq3
   have:i=K:=zq3
   subst this
   have hfin:st=⟨at_,bad,fs⟩:=by have h:=HRun.1;rw [Nat.sub_self,zhb] at h;exact h
   subst hfin
   simp only at HN HLen
   clear HRun
   have hm0:wr.cell? ⟨wm.heap.size,0,none⟩=some (.int .i64 a):=(zd HN.1.bM 0).trans rfl
   have hm1:wr.cell? ⟨wm.heap.size,1,none⟩=some (.int .i64 b):=(zd HN.1.bM 1).trans rfl
   have hm2:wr.cell? ⟨wm.heap.size,2,none⟩=some (.int .i64 c):=(zd HN.1.bM 2).trans rfl
   have hm3:wr.cell? ⟨wm.heap.size,3,none⟩=some (.slice A fs.length cc):=(zd HN.1.bM 3).trans rfl
   have KM:=zz (k53.K_of_M (k53_mkM wr _ _ (⟨a,b,c,fs⟩:S53) HN.1.rf))
   go_wp2_with fail
   obtain ⟨kt,vt,sl,TF,hmt⟩:=FT.1
   ((with_reducible refine (implMetaText_c TF (⟨a,b,c,fs⟩:S53) tx okt wr KM.1 hmt).mono ?_);rintro e w8 ⟨rfl,hb8⟩)
   have HN8:=zz (HN.1.below hb8)
   clear HN KM hm0 hm1 hm2 hm3 hb8 hmt
   have BO:=zz (m_res HN8.1)
   have hm0:w8.cell? ⟨wm.heap.size,0,none⟩=some (.int .i64 a):=(zd HN8.1.bM 0).trans rfl
   have hm1:w8.cell? ⟨wm.heap.size,1,none⟩=some (.int .i64 b):=(zd HN8.1.bM 1).trans rfl
   have hm2:w8.cell? ⟨wm.heap.size,2,none⟩=some (.int .i64 c):=(zd HN8.1.bM 2).trans rfl
   have hm3:w8.cell? ⟨wm.heap.size,3,none⟩=some (.slice A fs.length cc):=(zd HN8.1.bM 3).trans rfl
   have ho0:w8.cell? ⟨w.heap.size,0,none⟩=some (.int .i64 0):=(zd BO.1 0).trans rfl
   have ho1:w8.cell? ⟨w.heap.size,1,none⟩=some (.int .i64 0):=(zd BO.1 1).trans rfl
   have ho2:w8.cell? ⟨w.heap.size,2,none⟩=some (.int .i64 0):=(zd BO.1 2).trans rfl
   have ho3:w8.cell? ⟨w.heap.size,3,none⟩=some (.slice none 0 0):=(zd BO.1 3).trans rfl
   have hr1:w8.cell? ⟨w1.heap.size,1,none⟩=some (.int .i64 at_):=(zd HN8.1.bR 1).trans rfl
   have hfo:=zh BO.1
   have hlo:=zE BO.1
   have hlm:=zE HN8.1.bM
   rcases HRES.1 with ⟨e1,e2,e3,e4,e5,e6⟩|⟨e1,e5,e6⟩
   ·subst e1 e3 e5 e6
    have hq1:(at_ !=(body.size:Int))=false:=by rw [e2];simp
    have hq2:decide (at_=(body.size:Int))=true:=z6 e2
    have hq3:(tx.toList !=t.toList)=false:=by rw [e4];simp
    have hq4:(tx.toList==t.toList)=true:=by rw [e4];simp
    clear e2 e4
    have hr2:w8.cell? ⟨w1.heap.size,2,none⟩=some (.bool false):=(zd HN8.1.bR 2).trans rfl
    go_wp2
    have B1:=zv BO.1 0 (.int .i64 a) rfl
    have B2:=zv B1 1 (.int .i64 b) rfl
    have B3:=zv B2 2 (.int .i64 c) rfl
    have B4:=zv B3 3 (.slice A fs.length cc) rfl
    refine bodyPost_ret (zZ rfl _ _ w.heap.size 53 #[.int .i64 a,.int .i64 b,.int .i64 c,.slice A fs.length cc] (0,0) _ rfl B4 Try.underlying53 rfl zq8) rfl ?_
    exact m_post (m:=⟨a,b,c,fs⟩) (m_done HN8.1)
   ·subst e5 e6
    cases hbad:bad with
    |true=>
     subst hbad
     clear e1
     have hr2:w8.cell? ⟨w1.heap.size,2,none⟩=some (.bool true):=(zd HN8.1.bR 2).trans rfl
     go_wp2
     have B1:=zv BO.1 0 (.int .i64 0) rfl
     have B2:=zv B1 1 (.int .i64 0) rfl
     have B3:=zv B2 2 (.int .i64 0) rfl
     have B4:=zv B3 3 (.slice none 0 0) rfl
     refine bodyPost_ret (zZ rfl _ _ w.heap.size 53 #[.int .i64 0,.int .i64 0,.int .i64 0,.slice none 0 0] (0,0) _ rfl B4 Try.underlying53 rfl zq8) rfl ?_
     exact m_zero (m_done HN8.1).2
    |false=>
     subst hbad
     have hr2:w8.cell? ⟨w1.heap.size,2,none⟩=some (.bool false):=(zd HN8.1.bR 2).trans rfl
     by_cases hq:at_=(body.size:Int)
     ·have hq1:(at_ !=(body.size:Int))=false:=by rw [hq];simp
      have hq2:=z6 hq
      cases hokt:okt with
      |false=>
       subst hokt
       clear hq e1
       go_wp2
       have B1:=zv BO.1 0 (.int .i64 0) rfl
       have B2:=zv B1 1 (.int .i64 0) rfl
       have B3:=zv B2 2 (.int .i64 0) rfl
       have B4:=zv B3 3 (.slice none 0 0) rfl
       refine bodyPost_ret (zZ rfl _ _ w.heap.size 53 #[.int .i64 0,.int .i64 0,.int .i64 0,.slice none 0 0] (0,0) _ rfl B4 Try.underlying53 rfl zq8) rfl ?_
       exact m_zero (m_done HN8.1).2
      |true=>
       subst hokt
       have e3:¬tx.toList=t.toList:=by
        rcases e1 with e|e|e|e
        ·cases e
        ·exact absurd hq e
        ·cases e
        ·exact e
       have hq3:(tx.toList !=t.toList)=true:=by simpa using e3
       have hq4:(tx.toList==t.toList)=false:=by simpa using e3
       clear hq e1 e3
       go_wp2
       have B1:=zv BO.1 0 (.int .i64 0) rfl
       have B2:=zv B1 1 (.int .i64 0) rfl
       have B3:=zv B2 2 (.int .i64 0) rfl
       have B4:=zv B3 3 (.slice none 0 0) rfl
       refine bodyPost_ret (zZ rfl _ _ w.heap.size 53 #[.int .i64 0,.int .i64 0,.int .i64 0,.slice none 0 0] (0,0) _ rfl B4 Try.underlying53 rfl zq8) rfl ?_
       exact m_zero (m_done HN8.1).2
     ·have hq1:(at_ !=(body.size:Int))=true:=by simpa using hq
      have hq2:=z7 hq
      clear hq e1
      exact zq116
def spec_ReadMeta.T15:Bool×List (List Nat×List Nat):=(true,[([],[]),([0],[0]),([],[]),([2],[2]),([3],[3]),([1,4,3],[1,4]),([0,1,2,3,4,5],[]),([6,5,5,0,1,2,3,4,5],[5,6])])
def spec_ReadMeta.B15:List Nat:=[0,1,0,4,12,31,63,127]
theorem spec_ReadMeta.ok15_1:regB (zgb Try.f116 15) spec_ReadMeta.T15 spec_ReadMeta.B15 [7] [.p 0,.p 2,.t 1,.e 3,.e 4,.e 5,.p 6,.l 7]=true:=zq8
theorem zya {s:ByteArray} {at_:Int} {bad:Bool} {g:Nat} {w0 w:World} {x a1:Int} {b1:Bool} (hr:zoa s at_ bad 1000000000=(x,a1,b1)) (hs:s.size≤140737488351232) (hI:w.heap[g]?=some (.cells #[.string s,.int .i64 at_,.bool bad] 174 (0,0))) (hg:w0.heap.size≤g) (hB:Below w0.heap.size w0 w):
  Calls Try.prog 153 #[.pointer (some ⟨g,0,none⟩)] w (RdPost w0 w g 174 (.int .i64 x) s a1 b1):=by
 have h:=spec_readsN.num s at_ bad 1000000000 g w0 w hs hI hg hB
 simp only [hr] at h
 exact h
theorem specReadMeta_c (k:Nat) (t body:ByteArray) (ok0:Bool) (w:World) (hu:spec_Unsealed.f k t=some (body,ok0)) (hs:body.size≤140737488351232) (a b c a1 a2 a3 a4:Int) (b1 b2 b3 b4:Bool) (ha:zoa body 0 (!ok0) 1000000000=(a,a1,b1)) (hb:zoa body a1 b1 1000000000=(b,a2,b2)) (hc:zoa body a2 b2 1000000000=(c,a3,b3)) (n:Nat) (hn:zoa body a3 b3 1000000000=((n:Int),a4,b4))
  (at_:Int) (bad:Bool) (fs:List S122) (hg:zhb true 1000000000 body (min n 30) ⟨a4,b4,[]⟩=⟨at_,bad,fs⟩) (tx:ByteArray) (okt:Bool) (ft:∃(k1:Nat) (vt:Int→ByteArray) (sl:ByteArray→ByteArray),TxF k1 vt sl∧MTxt vt sl ⟨a,b,c,fs⟩ tx okt)
  (m:S53) (ok:Bool) (hres:(bad=false∧okt=true∧tx.toList=t.toList∧m=⟨a,b,c,fs⟩∧ok=true)∨((bad=true∨okt=false∨¬tx.toList=t.toList)∧m=⟨0,0,0,[]⟩∧ok=false)):
  Calls Try.prog 116 #[.string t] w (zda w m ok):=by
 have HU:=zz hu
 have HA:=zz ha
 have HB:=zz hb
 have HC:=zz hc
 have HK:=zz hn
 have HG:=zz hg
 have FT:=zz ft
 have HRES:=zz hres
 clear hu ha hb hc hn hg ft hres
 go_enter Try.func116,Try.ntmps116
 go_wp2_with fail
 ((with_reducible refine (spec_Unsealed.calls k t body ok0 _ HU.1).mono ?_);rintro e w1 ⟨rfl,hb1⟩)
 obtain ⟨hc1,hf1⟩:=bcell hb1
 have hz1:w.heap.size<w1.heap.size:=zq83
 have HB1:=zz hb1
 clear hb1
 go_wp2_with fail
 have bR0:=zz (zM w1 (.cells #[.string body,.int .i64 0,.bool (!ok0)] 174))
 have bel0:=zz (zi HB1.1 (.cells #[.string body,.int .i64 0,.bool (!ok0)] 174))
 have hR0:=zz (show ((w.alloc (.cells #[.int .i64 0,.int .i64 0,.int .i64 0,.slice none 0 0] 53))).heap.size≤w1.heap.size by simp;omega)
 ((with_reducible refine (zya HA.1 hs bR0.out hR0.out bel0.out).mono ?_);rintro e wm ⟨rfl,hI2,hb2,hk2⟩)
 have HM0:=zz (MInv.begin hI2 hR0.out hb2 a)
 have hzm:w1.heap.size<wm.heap.size:=zE hI2
 clear hI2 hb2 hk2 hc1 hf1 bR0 bel0
 go_wp2_with fail
 ((with_reducible refine (zya HB.1 hs HM0.1.bR HM0.1.hR HM0.1.bel).mono ?_);rintro e wn0 ⟨rfl,hI2,hb2,hk2⟩)
 have HR0:=zz (HM0.1.read hI2 hb2 hk2)
 clear hI2 hb2 hk2 HM0
 have hs1:wn0.cell? ⟨wm.heap.size,1,none⟩=some (.int .i64 0):=(zd HR0.1.bM 1).trans rfl
 have hf1:=zh HR0.1.bM 1
 have hl1:=zE HR0.1.bM
 go_wp2_with fail
 have HM1:=zz (HR0.1.put1 b)
 generalize wn0.setCell ⟨wm.heap.size,1,none⟩ _=wp0 at HM1 ⊢
 clear hs1 hf1 HR0 hl1
 ((with_reducible refine (zya HC.1 hs HM1.1.bR HM1.1.hR HM1.1.bel).mono ?_);rintro e wn1 ⟨rfl,hI2,hb2,hk2⟩)
 have HR1:=zz (HM1.1.read hI2 hb2 hk2)
 clear hI2 hb2 hk2 HM1
 have hs1:wn1.cell? ⟨wm.heap.size,2,none⟩=some (.int .i64 0):=(zd HR1.1.bM 2).trans rfl
 have hf1:=zh HR1.1.bM 2
 have hl1:=zE HR1.1.bM
 go_wp2_with fail
 have HM2:=zz (HR1.1.put2 c)
 generalize wn1.setCell ⟨wm.heap.size,2,none⟩ _=wp1 at HM2 ⊢
 clear hs1 hf1 HR1 hl1
 ((with_reducible refine (zya HK.1 hs HM2.1.bR HM2.1.hR HM2.1.bel).mono ?_);rintro e wl ⟨rfl,hI2,hb2,hk2⟩)
 have HM3:=zz (HM2.1.read hI2 hb2 hk2)
 clear hI2 hb2 hk2 HM2
 go_wp2_with fail
 obtain ⟨K,hKK⟩:∃K,K=min n 30:=⟨_,rfl⟩
 rw [←hKK] at HG
 go_loopg [9] (K+1) (fun gg s9 wr=>∃(i:Nat) (st:GSt) (A:Option Addr) (cc:Nat),i≤K∧K-i<gg∧s9= .int .i64 i∧Z0 (zhb true 1000000000 body (K-i) st=⟨at_,bad,fs⟩)∧Z0 (st.fs.length=i)∧Z0 (MInv (w.alloc (.cells #[.int .i64 0,.int .i64 0,.int .i64 0,.slice none 0 0] 53)) wr wm.heap.size w1.heap.size 174 body a b c (.slice A st.fs.length cc) st.at_ st.bad st.fs))
 case atStart=>exact ⟨0,⟨a4,b4,[]⟩,none,0,z7a _,zq3,rfl,HG,⟨rfl⟩,HM3⟩
 case round=>
  clear HM3 HG
  obtain ⟨i,st,A,cc,hi,hgg,rfl,HRun,HLen,HN⟩:=hrel
  obtain ⟨sa,sb,sf⟩:=st
  simp only at HRun HLen HN
  have hrb:wr.cell? ⟨w1.heap.size,2,none⟩=some (.bool sb):=(zd HN.1.bR 2).trans rfl
  by_cases hgo:i<K∧sb=false
  ·obtain ⟨hlt,rfl⟩:=hgo
   have hltz:(i:Int)<(n:Int):=zq3
   have hlt3:(i:Int)<30:=zq3
   obtain ⟨p,p1,p2,hp⟩:∃p p1 p2,zoa body sa false 1000000000=(p,p1,p2):=⟨_,_,_,rfl⟩
   obtain ⟨kq,q1,q2,hq⟩:∃kq q1 q2,zoa body p1 p2 1000000000=(kq,q1,q2):=⟨_,_,_,rfl⟩
   have hk0:0≤kq:=by have:=rNum_nn hs p1 p2 1000000000;rw [hq] at this;exact this
   obtain ⟨kn,rfl⟩:=Int.eq_ofNat_of_zero_le hk0
   obtain ⟨L,hL⟩:∃L,L=min kn 50:=⟨_,rfl⟩
   obtain ⟨⟨fa,fb,fx⟩,hF⟩:∃q,fRun true body L ⟨q1,q2,[]⟩=q:=⟨_,rfl⟩
   have HStep:=zz (show zhb true 1000000000 body (K-(i+1)) ⟨fa,fb,sf++[⟨p,fx⟩]⟩=⟨at_,bad,fs⟩ by
    have h:=HRun.1
    rw [show K-i=(K-(i+1))+1 by omega,zhb,if_neg zq29] at h
    have e1:gP body ⟨sa,false,sf⟩=(p,p1,p2):=hp
    have e2:gK 1000000000 body ⟨sa,false,sf⟩=((kn:Int),q1,q2):=by unfold gK;rw [e1];exact hq
    have e3:gF true 1000000000 body ⟨sa,false,sf⟩=⟨fa,fb,fx⟩:=by unfold gF;rw [e2];simp only [Int.toNat_natCast];rw [←hL];exact hF
    unfold gStep at h
    rw [e3,e1] at h
    exact h)
   have HP:=zz hp
   have HQ:=zz hq
   have HF_:=zz hF
   clear hp hq hF hk0 HRun
   go_wp2_with fail
   ((with_reducible refine (zya HP.1 hs HN.1.bR HN.1.hR HN.1.bel).mono ?_);rintro e w2 ⟨rfl,hI2,hb2,hk2⟩)
   have HN1:=zz (HN.1.read hI2 hb2 hk2)
   clear hI2 hb2 hk2 HN hrb
   go_wp2_with fail
   have HF0:=zz (HN1.1.free p)
   clear HN1
   ((with_reducible refine (zya HQ.1 hs HF0.1.bR HF0.1.hR HF0.1.bel).mono ?_);rintro e w3 ⟨rfl,hI2,hb2,hk2⟩)
   have HF1:=zz (HF0.1.read hI2 hb2 hk2)
   clear hI2 hb2 hk2 HF0
   go_wp2_with fail
   go_loopg [12] (L+1) (fun gg s12 wi=>∃(j:Nat) (sx:FSt) (A1:Option Addr) (c1:Nat),j≤L∧L-j<gg∧s12= .int .i64 j∧Z0 (fRun true body (L-j) sx=⟨fa,fb,fx⟩)∧Z0 (sx.xs.length=j)∧Z0 (FInv (w.alloc (.cells #[.int .i64 0,.int .i64 0,.int .i64 0,.slice none 0 0] 53)) wi wm.heap.size w1.heap.size w2.heap.size 174 body a b c (.slice A sf.length cc) sx.at_ sx.bad sf p (.slice A1 sx.xs.length c1) sx.xs))
   case atStart=>exact ⟨0,⟨q1,q2,[]⟩,none,0,z7a _,zq3,rfl,HF_,⟨rfl⟩,HF1⟩
   case round=>
    clear HF1 HF_
    obtain ⟨j,sx,A1,c1,hj,hgj,rfl,HRj,HLj,HF⟩:=hrel
    obtain ⟨xa,xb,xs1⟩:=sx
    simp only at HRj HLj HF
    have hrb:wr.cell? ⟨w1.heap.size,2,none⟩=some (.bool xb):=(zd HF.1.bR 2).trans rfl
    by_cases hgo:j<L∧xb=false
    ·obtain ⟨hlj,rfl⟩:=hgo
     have hltj:(j:Int)<(kn:Int):=zq3
     have hltj5:(j:Int)<50:=zq3
     obtain ⟨x1,y1,y2,hx⟩:∃x1 y1 y2,zoa body xa false 1000000000=(x1,y1,y2):=⟨_,_,_,rfl⟩
     have HSj:=zz (show fRun true body (L-(j+1)) ⟨y1,y2,xs1++[x1]⟩=⟨fa,fb,fx⟩ by
      have h:=HRj.1
      rw [show L-j=(L-(j+1))+1 by omega,fRun,if_neg zq29] at h
      unfold fStep at h
      simp only [hx] at h
      exact h)
     have HX:=zz hx
     clear hx HRj
     go_wp2_with fail
     clear hrb
     have hNd:=zz HF.1.drew
     clear HF
     refine zsa spec_ReadMeta.ok15_1 (S:=fun w'=>w'.cell? ⟨w2.heap.size,0,none⟩=some (.int .i64 p)∧w'.cell? ⟨w2.heap.size,1,none⟩=some (.slice A1 xs1.length c1)) zq8 (fun _ _ _ _ h=>h) ⟨(zd hNd.out.bF 0).trans rfl,(zd hNd.out.bF 1).trans rfl⟩ (fun hHeld=> ?_)
     generalize wr.drew=wd at hNd hHeld ⊢
     iterate 2 (refine zY (v:= ?_) (a':= ?_) rfl rfl (Or.inl ⟨zq19,zq5⟩) zq2 ?_)
     (refine zQa (v:= ?_) (a':= ?_) rfl rfl (Or.inl ⟨zq19,zq57⟩) zq2 ?_)
     refine zX rfl rfl Try.func153 zq8 rfl #[.pointer (some ⟨w1.heap.size,0,none⟩)] zq19 rfl zq20 ?_
     with_reducible refine (zya HX.1 hs hNd.out.bR hNd.out.hR hNd.out.bel).mono ?_
     rintro e wc ⟨rfl,hIc,hbc,hkc⟩
     have hNc:=zz (hNd.out.read hIc hbc hkc)
     clear hNd hIc hbc hkc
     refine ⟨_,rfl,⟨(zd hNc.out.bF 0).trans rfl,(zd hNc.out.bF 1).trans rfl⟩,(fun hHeld=> ?_)⟩
     refine zR (a':= ?_) zq2 ?_
     refine seq_e rfl rfl (fun K hK=> ?_)
     refine value_ (w1:= ?_) (v:= ?_) zq19 rfl ?_ ?_
     rotate_left 2
     ·go_simp
      constructor
      ·rfl
      ·rfl
     refine hK.out _ _ ⟨(zd (zo hNc.out.bF _) 0).trans rfl,(zd (zo hNc.out.bF _) 1).trans rfl⟩ (fun hHeld=> ?_)
     clear hK K
     refine zR (a':= ?_) zq2 ?_
     refine seq_e rfl rfl (fun K hK=> ?_)
     refine Kd.R_append_step (Kd.int .i64) (w0:=(w.alloc (.cells #[.int .i64 0,.int .i64 0,.int .i64 0,.slice none 0 0] 53))) ((w.alloc (.cells #[.int .i64 0,.int .i64 0,.int .i64 0,.slice none 0 0] 53))).heap.size zq19 (.tmp 74) (.tmp 77) 26 3 (.int .i64 0) 8 rfl Try.underlying26 info3r_ rfl zq32 zq3 (.slice A1 xs1.length c1) xs1 x1 [.int .i64 x1] (fun k=>w2.heap.size<k) (fun _=>False) rfl rfl ?aP (fun _ hk=>hk.elim) ?aF ?aO ?aB ?aS ?aL ?_
     (case aP=>exact rfl)
     (case aF=>exact (fun k hk=>z3a (zE hNc.out.bF) hk))
     (case aO=>exact hNc.out.rk)
     (case aB=>exact hNc.out.bel)
     (case aS=>exact hNc.out.bel.size)
     (case aL=>have:=HLj.1;omega)
     intro va wa ho hb hg hat
     have bNa:=zz (zaa hNc.out.bF hg (fun e=>by have:=hNc.out.rk.1 _ e.symm;omega))
     obtain ⟨ks1,hks⟩:∃z,z=xs1++[x1]:=⟨_,rfl⟩
     rw [←hks] at ho
     have HKS:=zz hks
     clear hks
     obtain ⟨Ao,co,eo⟩:=Kd.R_slice ho
     subst eo
     have hNs:=zz (hNc.out.push ho hb hg)
     clear ho hb hg hat
     refine hK.out _ _ ⟨(zd bNa.out 0).trans rfl,(zd bNa.out 1).trans rfl⟩ (fun hHeld=> ?_)
     clear hK K
     refine zR (a':= ?_) zq2 ?_
     (refine zY (v:= ?_) (a':= ?_) rfl rfl (Or.inl ⟨zq19,zq5⟩) zq2 ?_)
     refine seq_l rfl rfl (fun K hK=> ?_)
     have hs1:wa.cell? ⟨w2.heap.size,1,none⟩=some (.slice A1 xs1.length c1):=(zd bNa.out 1).trans rfl
     have hf1:=zh bNa.out 1
     refine skip_ (w1:= ?_) zq19 rfl ?_ ?_
     rotate_left
     ·go_simp
      rfl
     refine hK.out _ _ ?_
     clear hK K
     refine zKa ?_
     clear hNc bNa hs1 hf1 hHeld
     generalize wa.setCell ⟨w2.heap.size,1,none⟩ _=w7 at hNs ⊢
     have HF2:=zz hNs.out
     clear hNs
     go_wp2
     have hw:wrap64 ((j:Int)+1)=((j+1:Nat):Int):=zq79
     have HW:=zz hw
     clear hw
     go_roundg (L-j)
     case measure=>omega
     case rel=>exact ⟨j+1,⟨y1,y2,ks1⟩,Ao,co,zq3,zq3,zq78,⟨by rw [HKS.1];exact HSj.1⟩,⟨by show ks1.length=j+1;rw [HKS.1,List.length_append];have:=HLj.1;simp;omega⟩,HF2⟩
    ·have hfin:(⟨xa,xb,xs1⟩:FSt)=⟨fa,fb,fx⟩:=by
      have h:=HRj.1
      by_cases hlj:j<L
      ·have hxb:xb=true:=by cases xb with|true=>rfl|false=>exact absurd ⟨hlj,rfl⟩ hgo
       rw [show L-j=(L-(j+1))+1 by omega,fRun,if_pos ⟨rfl,hxb⟩] at h
       exact h
      ·rw [show L-j=0 by omega,fRun] at h
       exact h
     injection hfin with z1 z2 z3
     subst z1 z2 z3
     clear HRj
     have hm3:wr.cell? ⟨wm.heap.size,3,none⟩=some (.slice A sf.length cc):=(zd HF.1.bM 3).trans rfl
     have hx0:wr.cell? ⟨w2.heap.size,0,none⟩=some (.int .i64 p):=(zd HF.1.bF 0).trans rfl
     have hx1:wr.cell? ⟨w2.heap.size,1,none⟩=some (.slice A1 xs1.length c1):=(zd HF.1.bF 1).trans rfl
     have hex:¬(j:Int)<(kn:Int)∨((j:Int)<(kn:Int)∧¬(j:Int)<50)∨((j:Int)<(kn:Int)∧(j:Int)<50∧xb=true):=by
      by_cases h1:(j:Int)<(kn:Int)
      ·by_cases h2:(j:Int)<50
       ·refine .inr (.inr ⟨h1,h2,?_⟩)
        cases xb with
        |true=>rfl
        |false=>exact absurd ⟨zq3,rfl⟩ hgo
       ·exact .inr (.inl ⟨h1,h2⟩)
      ·exact .inl h1
     clear hgo
     rcases hex with hx5|⟨hx5,hx6⟩|⟨hx5,hx6,hx7⟩
     all_goals (try subst hx7)
     all_goals
      go_wp2_with (first|((with_reducible refine zfa (b:= .append) (xs:= #[.tmp 81,.tmp 83]) rfl ?_);at_builtin;refine free_app rfl (.tmp 81) (.tmp 83) rfl rfl rfl HF.1 (by have:=HLen.1;omega) ?_;intro v' w4 HS4 HB4 HG4 HC4;obtain ⟨sf1,hsf⟩:∃z,z=sf++[(⟨p,xs1⟩:S122)]:=⟨_,rfl⟩;rw [←hsf] at HS4;have HSF:=zz hsf;clear hsf;obtain ⟨A9,c9,e9⟩:=Kd.S_slice HS4.1;subst e9;have hs4:w4.cell? ⟨wm.heap.size,3,none⟩=some (.slice A sf.length cc):=(zd HC4.1 3).trans rfl;have hf4:=zh HC4.1 3;clear hm3 hx0 hx1))
      have HN2:=zz (HF.1.close HS4.1 HB4.1 HG4.1)
      generalize w4.setCell ⟨wm.heap.size,3,none⟩ _=w5 at HN2 ⊢
      clear hs4 hf4 HF HS4 HB4 HG4 HC4
      have hw:wrap64 ((i:Int)+1)=((i+1:Nat):Int):=zq79
      have HW:=zz hw
      clear hw
      go_roundg (K-i)
      case measure=>omega
      case rel=>exact ⟨i+1,⟨xa,_,sf1⟩,A9,c9,zq3,zq3,zq78,⟨by rw [HSF.1];exact HStep.1⟩,⟨by show sf1.length=i+1;rw [HSF.1,List.length_append];have:=HLen.1;simp;omega⟩,HN2⟩
  ·have hfin:(⟨sa,sb,sf⟩:GSt)=⟨at_,bad,fs⟩:=by
    have h:=HRun.1
    by_cases hlj:i<K
    ·have hxb:sb=true:=by cases sb with|true=>rfl|false=>exact absurd ⟨hlj,rfl⟩ hgo
     rw [show K-i=(K-(i+1))+1 by omega,zhb,if_pos ⟨rfl,hxb⟩] at h
     exact h
    ·rw [show K-i=0 by omega,zhb] at h
     exact h
   injection hfin with z1 z2 z3
   subst z1 z2 z3
   clear HRun
   have hm0:wr.cell? ⟨wm.heap.size,0,none⟩=some (.int .i64 a):=(zd HN.1.bM 0).trans rfl
   have hm1:wr.cell? ⟨wm.heap.size,1,none⟩=some (.int .i64 b):=(zd HN.1.bM 1).trans rfl
   have hm2:wr.cell? ⟨wm.heap.size,2,none⟩=some (.int .i64 c):=(zd HN.1.bM 2).trans rfl
   have hm3:wr.cell? ⟨wm.heap.size,3,none⟩=some (.slice A sf.length cc):=(zd HN.1.bM 3).trans rfl
   have KM:=zz (k53.K_of_M (k53_mkM wr _ _ (⟨a,b,c,sf⟩:S53) HN.1.rf))
   have hex:¬(i:Int)<(n:Int)∨((i:Int)<(n:Int)∧¬(i:Int)<30)∨((i:Int)<(n:Int)∧(i:Int)<30∧sb=true):=by
    by_cases h1:(i:Int)<(n:Int)
    ·by_cases h2:(i:Int)<30
     ·refine .inr (.inr ⟨h1,h2,?_⟩)
      cases sb with
      |true=>rfl
      |false=>exact absurd ⟨zq3,rfl⟩ hgo
     ·exact .inr (.inl ⟨h1,h2⟩)
    ·exact .inl h1
   clear hgo
   obtain ⟨kt,vt,sl,TF,hmt⟩:=FT.1
   have HMT:=zz hmt
   clear hmt
   rcases hex with hx5|⟨hx5,hx6⟩|⟨hx5,hx6,hx7⟩
   all_goals (try subst hx7)
   all_goals
    go_wp2_with fail
    ((with_reducible refine (specMetaText_c TF (⟨a,b,c,sf⟩:S53) tx okt wr KM.1 HMT.1).mono ?_);rintro e w8 ⟨rfl,hb8⟩)
    have HN8:=zz (HN.1.below hb8)
    clear HN KM hm0 hm1 hm2 hm3 hb8 HMT hrb hx5 HLen
    (try clear hx6)
    have BO:=zz (m_res HN8.1)
    have hm0:w8.cell? ⟨wm.heap.size,0,none⟩=some (.int .i64 a):=(zd HN8.1.bM 0).trans rfl
    have hm1:w8.cell? ⟨wm.heap.size,1,none⟩=some (.int .i64 b):=(zd HN8.1.bM 1).trans rfl
    have hm2:w8.cell? ⟨wm.heap.size,2,none⟩=some (.int .i64 c):=(zd HN8.1.bM 2).trans rfl
    have hm3:w8.cell? ⟨wm.heap.size,3,none⟩=some (.slice A sf.length cc):=(zd HN8.1.bM 3).trans rfl
    have ho0:w8.cell? ⟨w.heap.size,0,none⟩=some (.int .i64 0):=(zd BO.1 0).trans rfl
    have ho1:w8.cell? ⟨w.heap.size,1,none⟩=some (.int .i64 0):=(zd BO.1 1).trans rfl
    have ho2:w8.cell? ⟨w.heap.size,2,none⟩=some (.int .i64 0):=(zd BO.1 2).trans rfl
    have ho3:w8.cell? ⟨w.heap.size,3,none⟩=some (.slice none 0 0):=(zd BO.1 3).trans rfl
    have hfo:=zh BO.1
    have hlo:=zE BO.1
    have hlm:=zE HN8.1.bM
    clear hlm
    have hlm:=zE HN8.1.bM
   ·exact zq87
   ·exact zq87
   ·rcases HRES.1 with ⟨e1,e3,e4,e5,e6⟩|⟨e1,e5,e6⟩
    ·cases e1
    ·subst e5 e6
     clear e1
     have hr2:w8.cell? ⟨w1.heap.size,2,none⟩=some (.bool true):=(zd HN8.1.bR 2).trans rfl
     exact zq116
theorem rNum_up {s:ByteArray} {at_:Int} {bad:Bool} {m m':Int} (h:(zoa s at_ bad m).2.2=false) (hm:m≤m'):zoa s at_ bad m'=zoa s at_ bad m:=by
 unfold zoa at h ⊢
 split at h
 ·rename_i hc
  rw [if_pos hc,if_pos ⟨hc.1,hc.2.1,Int.le_trans hc.2.2 hm⟩]
 ·cases h
theorem rNum_dn {s:ByteArray} {at_:Int} {bad:Bool} {m m':Int} (h:(zoa s at_ bad m').2.2=false) (hm:(zoa s at_ bad m').1≤m):zoa s at_ bad m=zoa s at_ bad m':=by
 unfold zoa at h hm ⊢
 split at h
 ·rename_i hc
  rw [if_pos hc] at hm
  rw [if_pos hc,if_pos ⟨hc.1,hc.2.1,hm⟩]
 ·cases h
theorem zJa {s:ByteArray} {at_:Int} {bad:Bool} {m:Int} (h:(zoa s at_ bad m).2.2=false):bad=false:=by
 cases bad with
 |false=>rfl
 |true=>rw [rNum_bad] at h;cases h
theorem fRun_was {stop:Bool} {s:ByteArray}:∀{n:Nat} {st:FSt},(fRun stop s n st).bad=false→st.bad=false
 |0,st,h=>h
 |n+1,st,h=>by
  rw [fRun] at h
  split at h
  ·exact h
  ·exact zJa (fRun_was h)
theorem fRun_both {s:ByteArray}:∀{n:Nat} {st:FSt} (stop:Bool),(fRun stop s n st).bad=false→∀stop',fRun stop' s n st=fRun stop s n st
 |0,st,_,h,_=>rfl
 |n+1,st,stop,h,stop'=>by
  have h0:=fRun_was h
  have hc:∀b:Bool,¬(b=true∧st.bad=true):=fun b g=>by rw [h0] at g;cases g.2
  rw [fRun,if_neg (hc _)] at h
  rw [fRun,fRun,if_neg (hc _),if_neg (hc _)]
  exact fRun_both stop h stop'
theorem fRun_len {s:ByteArray}:∀{n:Nat} {st:FSt} (stop:Bool),(fRun stop s n st).bad=false→(fRun stop s n st).xs.length=st.xs.length+n
 |0,st,_,h=>rfl
 |n+1,st,stop,h=>by
  have h0:=fRun_was h
  have hc:¬(stop=true∧st.bad=true):=fun g=>by rw [h0] at g;cases g.2
  rw [fRun,if_neg hc] at h ⊢
  rw [fRun_len stop h]
  simp [fStep]
  omega
theorem gStep_was {stop:Bool} {mk:Int} {s:ByteArray} {st:GSt} (h:(gStep stop mk s st).bad=false):(gF stop mk s st).bad=false∧(gK mk s st).2.2=false∧(gP s st).2.2=false∧st.bad=false:=by
 have h1:(gF stop mk s st).bad=false:=h
 have h2:(gK mk s st).2.2=false:=fRun_was h1
 have h3:(gP s st).2.2=false:=zJa h2
 exact ⟨h1,h2,h3,zJa h3⟩
theorem zta {stop:Bool} {mk:Int} {s:ByteArray}:∀{n:Nat} {st:GSt},(zhb stop mk s n st).bad=false→st.bad=false
 |0,st,h=>h
 |n+1,st,h=>by
  rw [zhb] at h
  split at h
  ·exact h
  ·exact (gStep_was (zta h)).2.2.2
theorem gRun_len {stop:Bool} {mk:Int} {s:ByteArray}:∀{n:Nat} {st:GSt},(zhb stop mk s n st).bad=false→(zhb stop mk s n st).fs.length=st.fs.length+n
 |0,st,h=>rfl
 |n+1,st,h=>by
  have h0:=zta h
  have hc:¬(stop=true∧st.bad=true):=fun g=>by rw [h0] at g;cases g.2
  rw [zhb,if_neg hc] at h ⊢
  rw [gRun_len h]
  simp [gStep]
  omega
theorem gRun_pre {stop:Bool} {mk:Int} {s:ByteArray}:∀{n:Nat} {st:GSt},∃gs,(zhb stop mk s n st).fs=st.fs++gs
 |0,st=>⟨[],by simp [zhb]⟩
 |n+1,st=>by
  rw [zhb]
  split
  ·exact ⟨[],by simp⟩
  ·obtain ⟨gs,h⟩:=gRun_pre (stop:=stop) (mk:=mk) (s:=s) (n:=n) (st:=gStep stop mk s st)
   exact ⟨⟨(gP s st).1,(gF stop mk s st).xs⟩::gs,by rw [h];simp [gStep]⟩
theorem gRun_up {s:ByteArray}:∀{n:Nat} {st:GSt},(zhb false 40 s n st).bad=false→zhb true 1000000000 s n st=zhb false 40 s n st
 |0,st,h=>rfl
 |n+1,st,h=>by
  have h0:=zta h
  have hc:∀b:Bool,¬(b=true∧st.bad=true):=fun b g=>by rw [h0] at g;cases g.2
  rw [zhb,if_neg (hc _)] at h
  rw [zhb,zhb,if_neg (hc _),if_neg (hc _)]
  obtain ⟨h1,h2,h3,h4⟩:=gStep_was (zta h)
  have e1:gK 1000000000 s st=gK 40 s st:=rNum_up h2 zq32
  have e2:gF true 1000000000 s st=gF false 40 s st:=by
   unfold gF
   rw [e1]
   exact fRun_both false h1 true
  have e3:gStep true 1000000000 s st=gStep false 40 s st:=by unfold gStep;rw [e2]
  rw [e3]
  exact gRun_up h
theorem gRun_dn {s:ByteArray}:∀{n:Nat} {st:GSt},(zhb true 1000000000 s n st).bad=false→(∀f∈(zhb true 1000000000 s n st).fs,f.f1.length≤40)→zhb false 40 s n st=zhb true 1000000000 s n st
 |0,st,h,_=>rfl
 |n+1,st,h,hf=>by
  have h0:=zta h
  have hc:∀b:Bool,¬(b=true∧st.bad=true):=fun b g=>by rw [h0] at g;cases g.2
  rw [zhb,if_neg (hc _)] at h hf
  rw [zhb,zhb,if_neg (hc _),if_neg (hc _)]
  obtain ⟨h1,h2,h3,h4⟩:=gStep_was (zta h)
  obtain ⟨gs,hgs⟩:=gRun_pre (stop:=true) (mk:=1000000000) (s:=s) (n:=n) (st:=gStep true 1000000000 s st)
  have h5:(gF true 1000000000 s st).xs.length≤40:=hf ⟨(gP s st).1,(gF true 1000000000 s st).xs⟩ (by rw [hgs];simp [gStep])
  have h6:(gF true 1000000000 s st).xs.length=min (gK 1000000000 s st).1.toNat 50:=by unfold gF;rw [fRun_len true h1];simp
  have e1:gK 40 s st=gK 1000000000 s st:=rNum_dn h2 (by show (gK 1000000000 s st).1≤40;omega)
  have e2:gF false 40 s st=gF true 1000000000 s st:=by
   unfold gF
   rw [e1]
   exact fRun_both true h1 false
  have e3:gStep false 40 s st=gStep true 1000000000 s st:=by unfold gStep;rw [e2]
  rw [e3]
  exact gRun_dn h hf
def encPs (ps:List Int):List Int:=ps.flatMap fun p=>enc p.toNat
def encGs (fs:List S122):List Int:=fs.flatMap fun f=>enc f.f0.toNat++enc f.f1.length++encPs f.f1
theorem fRun_sound {s:ByteArray} (hs:s.size≤140737488351232) (stop:Bool):∀{n:Nat} {a:Nat} {st:FSt},st.at_=(a:Int)→a≤s.size→(fRun stop s n st).bad=false→∃b ys,(fRun stop s n st).at_=((b:Nat):Int)∧a≤b∧b≤s.size∧(fRun stop s n st).xs=st.xs++ys∧bytes s a b=encPs ys
 |0,a,st,ha,hl,h=>⟨a,[],ha,z2a _,hl,by simp [fRun],by simp [bytes_nil,encPs]⟩
 |n+1,a,st,ha,hl,h=>by
  have h0:=fRun_was h
  have hc:¬(stop=true∧st.bad=true):=fun g=>by rw [h0] at g;cases g.2
  rw [fRun,if_neg hc] at h ⊢
  have h1:(zoa s st.at_ st.bad 1000000000).2.2=false:=fRun_was h
  rw [h0] at h1
  obtain ⟨a',b,x,g1,g2,g3,g4,g5,g6⟩:=zNa hs h1
  have e:a'=a:=by rw [ha] at g1;omega
  subst e
  have hst:fStep s st=⟨(b:Int),false,st.xs++[(x:Int)]⟩:=by unfold fStep;rw [h0,g2]
  rw [hst] at h ⊢
  obtain ⟨b',ys,r1,r2,r3,r4,r5⟩:=fRun_sound hs stop (n:=n) (a:=b) (st:=⟨(b:Int),false,st.xs++[(x:Int)]⟩) rfl g4 h
  refine ⟨b',(x:Int)::ys,r1,zq3,r3,by rw [r4];simp,?_⟩
  rw [zga s (show a'≤b by omega) r2,g5,r5]
  simp [encPs]
theorem gRun_sound {s:ByteArray} (hs:s.size≤140737488351232):∀{n:Nat} {a:Nat} {st:GSt},st.at_=(a:Int)→a≤s.size→(zhb false 40 s n st).bad=false→∃b gs,(zhb false 40 s n st).at_=((b:Nat):Int)∧a≤b∧b≤s.size∧(zhb false 40 s n st).fs=st.fs++gs∧bytes s a b=encGs gs
 |0,a,st,ha,hl,h=>⟨a,[],ha,z2a _,hl,by simp [zhb],by simp [bytes_nil,encGs]⟩
 |n+1,a,st,ha,hl,h=>by
  have h0:=zta h
  have hc:¬(false=true∧st.bad=true):=fun g=>by cases g.1
  rw [zhb,if_neg hc] at h ⊢
  obtain ⟨h1,h2,h3,h4⟩:=gStep_was (zta h)
  have h3':(zoa s st.at_ false 1000000000).2.2=false:=by have h:=h3;unfold gP at h;rw [h0] at h;exact h
  obtain ⟨a',b,x,g1,g2,g3,g4,g5,g6⟩:=zNa hs h3'
  have e:a'=a:=by rw [ha] at g1;omega
  subst e
  have eP:gP s st=((x:Int),(b:Int),false):=by unfold gP;rw [h0];exact g2
  have h2':(zoa s (b:Int) false 40).2.2=false:=by have:=h2;unfold gK at this;rw [eP] at this;exact this
  obtain ⟨b0,d,y,j1,j2,j3,j4,j5,j6⟩:=zNa hs h2'
  have e:b0=b:=zq3
  subst e
  have eK:gK 40 s st=((y:Int),(d:Int),false):=by unfold gK;rw [eP];exact j2
  have hF:gF false 40 s st=fRun false s y ⟨(d:Int),false,[]⟩:=by unfold gF;rw [eK];simp only [Int.toNat_natCast];rw [Nat.min_eq_left zq3]
  rw [hF] at h1
  obtain ⟨d',ys,q1,q2,q3,q4,q5⟩:=fRun_sound hs false (n:=y) (a:=d) (st:=⟨(d:Int),false,[]⟩) rfl j4 h1
  have hlen:=fRun_len false h1
  rw [q4] at hlen
  simp only [List.nil_append,List.length_nil,Nat.zero_add] at hlen q4
  have hst:gStep false 40 s st=⟨(d':Int),false,st.fs++[⟨(x:Int),ys⟩]⟩:=by unfold gStep;rw [hF,eP,q1,h1,q4]
  rw [hst] at h ⊢
  obtain ⟨b',gs,r1,r2,r3,r4,r5⟩:=gRun_sound hs (n:=n) (a:=d') (st:=⟨(d':Int),false,st.fs++[⟨(x:Int),ys⟩]⟩) rfl q3 h
  refine ⟨b',⟨(x:Int),ys⟩::gs,r1,zq3,r3,by rw [r4];simp,?_⟩
  rw [zga s (show a'≤b0 by omega) (show b0≤b' by omega),zga s (show b0≤d by omega) (show d≤b' by omega),zga s q2 r2,g5,j5,q5,r5]
  simp [encGs,hlen]
theorem vtN_str {n:Int} (h0:0≤n) (h1:n≤100000):vtN n=strOfNums (enc n.toNat):=by unfold vtN;rw [if_pos ⟨h0,h1⟩]
theorem pacc_str:∀{ps:List Int} (s:List Int),(∀p∈ps,0≤p∧p≤100000)→pacc vtN (strOfNums s) ps=strOfNums (s++encPs ps)
 |[],s,_=>by simp [pacc,encPs]
 |p::ps,s,h=>by
  have e:pacc vtN (strOfNums s) (p::ps)=pacc vtN (strOfNums s++vtN p) ps:=rfl
  obtain ⟨h0,h1⟩:=h p zq29
  rw [e,vtN_str h0 h1,←zSa,pacc_str _ (fun q hq=>h q (by simp [hq]))]
  simp [encPs]
theorem facc_str:∀{fs:List S122} (s:List Int),(∀f∈fs,(0≤f.f0∧f.f0≤100000)∧f.f1.length≤40∧∀p∈f.f1,0≤p∧p≤100000)→facc vtN (strOfNums s) fs=strOfNums (s++encGs fs)
 |[],s,_=>by simp [facc,encGs]
 |f::fs,s,h=>by
  have e:facc vtN (strOfNums s) (f::fs)=facc vtN (pacc vtN (strOfNums s++vtN f.f0++vtN (f.f1.length:Int)) f.f1) fs:=rfl
  obtain ⟨⟨h0,h1⟩,h2,h3⟩:=h f zq29
  rw [e,vtN_str h0 h1,vtN_str (n:=(f.f1.length:Int)) zq3 zq3,←zSa,←zSa,pacc_str _ h3,facc_str _ (fun q hq=>h q (by simp [hq]))]
  simp [encGs]
theorem mbody_str {x:S53} (h:MOk x):mbody vtN x=strOfNums (enc x.f0.toNat++enc x.f1.toNat++enc x.f2.toNat++enc x.f3.length++encGs x.f3):=by
 have hl:=h.len
 unfold mbody mhead
 rw [vtN_str h.f0.1 h.f0.2,vtN_str h.f1.1 h.f1.2,vtN_str h.f2.1 h.f2.2,vtN_str (n:=(x.f3.length:Int)) zq3 zq3,←zSa,←zSa,←zSa,facc_str]
 ·simp
 ·intro f hf
  obtain ⟨i,hi,rfl⟩:=List.getElem_of_mem hf
  obtain ⟨g1,g2,g3⟩:=h.fr (List.getElem?_eq_getElem hi)
  refine ⟨g1,g2,fun p hp=> ?_⟩
  obtain ⟨j,hj,rfl⟩:=List.getElem_of_mem hp
  exact g3 j _ (List.getElem?_eq_getElem hj)
theorem meta_both (t:ByteArray) (ht:t.size≤140737488351232):∃m ok,(∀w,Calls Try.prog 119 #[.string t] w (zda w m ok))∧(∀w,Calls Try.prog 116 #[.string t] w (zda w m ok))∧(MOk m∨m=⟨0,0,0,[]⟩):=by
 obtain ⟨⟨k1,u1⟩,⟨k2,u2⟩⟩:=unsealed_f t ht
 obtain ⟨KT,hKT⟩:=txF
 obtain ⟨⟨body,ok0⟩,hu⟩:∃q,zra t=q:=⟨_,rfl⟩
 rw [hu] at u1 u2
 have hs:body.size≤140737488351232:=by
  unfold zra at hu
  split at hu
  ·injection hu with e1 e2
   rw [←e1,ByteArray.size_extract]
   omega
  ·injection hu with e1 e2
   rw [←e1]
   decide
 obtain ⟨⟨a,a1,b1⟩,ha⟩:∃q,zoa body 0 (!ok0) 1000000000=q:=⟨_,rfl⟩
 obtain ⟨⟨b,a2,b2⟩,hb⟩:∃q,zoa body a1 b1 1000000000=q:=⟨_,rfl⟩
 obtain ⟨⟨c,a3,b3⟩,hc⟩:∃q,zoa body a2 b2 1000000000=q:=⟨_,rfl⟩
 obtain ⟨⟨nI,a4,b4⟩,hnI⟩:∃q,zoa body a3 b3 20=q:=⟨_,rfl⟩
 obtain ⟨⟨nS,a5,b5⟩,hnS⟩:∃q,zoa body a3 b3 1000000000=q:=⟨_,rfl⟩
 have hI0:0≤nI:=by have:=rNum_nn hs a3 b3 20;rw [hnI] at this;exact this
 have hI1:nI≤20:=by have:=rNum_le body a3 b3 (show (0:Int)≤20 by decide);rw [hnI] at this;exact this
 have hS0:0≤nS:=by have:=rNum_nn hs a3 b3 1000000000;rw [hnS] at this;exact this
 obtain ⟨K,rfl⟩:=Int.eq_ofNat_of_zero_le hI0
 obtain ⟨n,rfl⟩:=Int.eq_ofNat_of_zero_le hS0
 obtain ⟨GI,hGI⟩:∃q,zhb false 40 body K ⟨a4,b4,[]⟩=q:=⟨_,rfl⟩
 obtain ⟨GS,hGS⟩:∃q,zhb true 1000000000 body (min n 30) ⟨a5,b5,[]⟩=q:=⟨_,rfl⟩
 --the two runs are one when either is good
 have up:GI.bad=false→GS=GI:=by
  intro h
  rw [←hGI] at h
  have h4:b4=false:=zta h
  have e:=rNum_up (m':=1000000000) (show (zoa body a3 b3 20).2.2=false by rw [hnI];exact h4) zq32
  rw [hnI,hnS] at e
  injection e with e1 e2
  injection e2 with e2 e3
  have e1':n=K:=zq3
  subst e1' e2 e3
  rw [←hGS,←hGI,Nat.min_eq_left zq3]
  exact gRun_up h
 have dn:GS.bad=false→GS.fs.length≤20→(∀f∈GS.fs,f.f1.length≤40)→GI=GS:=by
  intro h hl hf
  rw [←hGS] at h hl hf
  have h5:b5=false:=zta h
  have hlen:=gRun_len h
  simp only [List.length_nil,Nat.zero_add] at hlen
  have e:=rNum_dn (m:=20) (show (zoa body a3 b3 1000000000).2.2=false by rw [hnS];exact h5) (by rw [hnS];show (n:Int)≤20;omega)
  rw [hnI,hnS] at e
  injection e with e1 e2
  injection e2 with e2 e3
  have e1':K=n:=zq3
  subst e1' e2 e3
  have hmin:min K 30=K:=Nat.min_eq_left zq3
  rw [hmin] at h hf hGS
  rw [←hGS,←hGI]
  exact gRun_dn h hf
 obtain ⟨txI,okI,mI,okmI⟩:=mt_ex_ vtN sealN ⟨a,b,c,GI.fs⟩
 obtain ⟨txS,okS,mS,okmS⟩:=mt_ex_ vtN sealN ⟨a,b,c,GS.fs⟩
 have impl:=fun (m:S53) (ok:Bool) hres (w:World)=>implReadMeta_c k1 t body ok0 w u1 hs a b c a1 a2 a3 a4 b1 b2 b3 b4 ha hb hc K hnI zq3 GI.at_ GI.bad GI.fs hGI txI okI ⟨KT,vtN,sealN,hKT KT (z2a _),mI⟩ m ok hres
 have spec:=fun (m:S53) (ok:Bool) hres (w:World)=>specReadMeta_c k2 t body ok0 w u2 hs a b c a1 a2 a3 a5 b1 b2 b3 b5 ha hb hc n hnS GS.at_ GS.bad GS.fs hGS txS okS ⟨KT,vtN,sealN,hKT KT (z2a _),mS⟩ m ok hres
 have same:GI=GS→okI=true→okS=true∧txS=txI:=by
  intro e ho
  subst e
  rcases mI with ⟨_,_,h⟩|⟨_,_,_,h⟩|⟨q1,q2,q3,_⟩
  ·rw [h] at ho;cases ho
  ·rw [h] at ho;cases ho
  ·rcases mS with ⟨h,_,_⟩|⟨_,h,_,_⟩|⟨r1,r2,r3,r4⟩
   ·exact absurd q1 h
   ·omega
   ·exact ⟨r4,r3.trans q3.symm⟩
 by_cases hacc:GS.bad=false∧okS=true∧txS.toList=t.toList
 ·obtain ⟨g1,g2,g3⟩:=hacc
  have hM:=okmS g2
  have hfr:∀f∈GS.fs,f.f1.length≤40:=hM.le40
  have hEq:=dn g1 hM.len hfr
  --the sum was right
  have hok0:ok0=true:=by
   have h5:b5=false:=by rw [←hGS] at g1;exact zta g1
   have h3:b3=false:=zJa (m:=1000000000) (by rw [hnS];exact h5)
   have h2:b2=false:=zJa (m:=1000000000) (by rw [hc];exact h3)
   have h1:b1=false:=zJa (m:=1000000000) (by rw [hb];exact h2)
   have h0:(!ok0)=false:=zJa (m:=1000000000) (by rw [ha];exact h1)
   cases ok0 with
   |true=>rfl
   |false=>cases h0
  subst hok0
  obtain ⟨hsz,HT⟩:=unsealed_true hu
  have htx:txS=mbody vtN ⟨a,b,c,GS.fs⟩++sealN (mbody vtN ⟨a,b,c,GS.fs⟩):=by
   rcases mS with ⟨h,_,_⟩|⟨_,_,_,h⟩|⟨_,_,h,_⟩
   ·exact absurd hM h
   ·rw [h] at g2;cases g2
   ·exact h
  have hbody:mbody vtN ⟨a,b,c,GS.fs⟩=body:=(HT _).1 (by rw [←htx];exact g3)
  --where the reader stands
  have hat:GI.at_=(body.size:Int):=by
   have hgb:(zhb false 40 body K ⟨a4,b4,[]⟩).bad=false:=by rw [hGI,hEq];exact g1
   have h4:b4=false:=zta hgb
   have h3:b3=false:=zJa (m:=20) (by rw [hnI];exact h4)
   have h2:b2=false:=zJa (m:=1000000000) (by rw [hc];exact h3)
   have h1:b1=false:=zJa (m:=1000000000) (by rw [hb];exact h2)
   subst h1 h2 h3 h4
   obtain ⟨p0,p1,x1,i1,i2,i3,i4,i5,_⟩:=zNa hs (show (zoa body 0 false 1000000000).2.2=false by have:=ha;simp only [Bool.not_true] at this;rw [this])
   obtain ⟨p1',p2,x2,j1,j2,j3,j4,j5,_⟩:=zNa hs (show (zoa body a1 false 1000000000).2.2=false by rw [hb])
   obtain ⟨p2',p3,x3,l1,l2,l3,l4,l5,_⟩:=zNa hs (show (zoa body a2 false 1000000000).2.2=false by rw [hc])
   obtain ⟨p3',p4,x4,o1,o2,o3,o4,o5,_⟩:=zNa hs (show (zoa body a3 false 20).2.2=false by rw [hnI])
   simp only [Bool.not_true] at ha
   rw [ha] at i2
   rw [hb] at j2
   rw [hc] at l2
   rw [hnI] at o2
   simp only [Prod.mk.injEq] at i2 j2 l2 o2
   obtain ⟨y1,y2,-⟩:=i2
   obtain ⟨y3,y4,-⟩:=j2
   obtain ⟨y5,y6,-⟩:=l2
   obtain ⟨y7,y8,-⟩:=o2
   have c0:p0=0:=zq3
   have c1:p1'=p1:=zq3
   have c2:p2'=p2:=zq3
   have c3:p3'=p3:=zq3
   subst c0 c1 c2 c3
   obtain ⟨bb,gs,z1,z2,z3,z4,z5⟩:=gRun_sound hs (n:=K) (a:=p4) (st:=⟨a4,false,[]⟩) y8 o4 hgb
   rw [hGI] at z1 z4
   simp only [List.nil_append] at z4
   have hgl:=gRun_len hgb
   rw [hGI] at hgl
   simp only [List.length_nil,Nat.zero_add] at hgl
   have hall:bytes body 0 bb=enc a.toNat++enc b.toNat++enc c.toNat++enc GS.fs.length++encGs GS.fs:=by
    rw [zga body (show 0≤p1' by omega) (show p1'≤bb by omega),zga body (show p1'≤p2' by omega) (show p2'≤bb by omega),zga body (show p2'≤p3' by omega) (show p3'≤bb by omega),zga body (show p3'≤p4 by omega) z2,i5,j5,l5,o5,z5,←z4,hEq]
    have e1:a.toNat=x1:=zq3
    have e2:b.toNat=x2:=zq3
    have e3:c.toNat=x3:=zq3
    have e4:GS.fs.length=x4:=by rw [←hEq,hgl];omega
    rw [e1,e2,e3,e4]
    simp
   have hsz2:=congrArg ByteArray.size hbody
   rw [mbody_str hM] at hsz2
   show GI.at_=_
   rw [z1]
   have:(strOfNums (bytes body 0 bb)).size=body.size:=by rw [hall];exact hsz2
   rw [strOfNums_size,bytes_len] at this
   omega
  have hokI:okI=true:=by
   rw [hEq] at mI
   rcases mI with ⟨h,_,_⟩|⟨_,h,_,_⟩|⟨_,_,_,h⟩
   ·exact absurd hM h
   ·rcases mS with ⟨h',_,_⟩|⟨_,_,_,h'⟩|⟨_,h',_,_⟩
    ·exact absurd hM h'
    ·rw [h'] at g2;cases g2
    ·omega
   ·exact h
  obtain ⟨_,htt⟩:=same hEq hokI
  refine ⟨⟨a,b,c,GS.fs⟩,true,fun w=>impl _ _ (.inl ⟨by rw [hEq];exact g1,hat,hokI,by rw [←htt];exact g3,by rw [hEq],rfl⟩) w,fun w=>spec _ _ (.inl ⟨g1,g2,g3,rfl,rfl⟩) w,.inl hM⟩
 ·have hnI':¬(GI.bad=false∧GI.at_=(body.size:Int)∧okI=true∧txI.toList=t.toList):=by
   rintro ⟨g1,g2,g3,g4⟩
   have e:=up g1
   obtain ⟨h1,h2⟩:=same e.symm g3
   exact hacc ⟨by rw [e];exact g1,h1,by rw [h2];exact g4⟩
  refine ⟨⟨0,0,0,[]⟩,false,fun w=>impl _ _ (.inr ⟨?_,rfl,rfl⟩) w,fun w=>spec _ _ (.inr ⟨?_,rfl,rfl⟩) w,.inr rfl⟩
  ·cases h1:GI.bad with
   |true=>exact .inl rfl
   |false=>
    right
    by_cases h2:GI.at_=(body.size:Int)
    ·right
     cases h3:okI with
     |false=>exact .inl rfl
     |true=>exact .inr (fun h4=>hnI' ⟨h1,h2,h3,h4⟩)
    ·exact .inl h2
  ·cases h1:GS.bad with
   |true=>exact .inl rfl
   |false=>
    right
    cases h3:okS with
    |false=>exact .inl rfl
    |true=>exact .inr (fun h4=>hacc ⟨h1,h3,h4⟩)
theorem b_done {w W:World} {v:Value} {fs:List S122} (h:Kd.S k122 122 W (w.heap.size+2) (fun _=>True) v fs) (hb:Below w.heap.size w W) {u0 u1 u2 u3:Value}:
  Kd.S k122 122 ((((W.setCell ⟨w.heap.size+1,0,none⟩ u0).setCell ⟨w.heap.size+1,1,none⟩ u1).setCell ⟨w.heap.size+1,2,none⟩ u2).setCell ⟨w.heap.size+1,3,none⟩ u3) w.heap.size (fun _=>True) v fs∧Below w.heap.size w ((((W.setCell ⟨w.heap.size+1,0,none⟩ u0).setCell ⟨w.heap.size+1,1,none⟩ u1).setCell ⟨w.heap.size+1,2,none⟩ u2).setCell ⟨w.heap.size+1,3,none⟩ u3):=by
 have h':=Kd.S_mono (Kd.S_bound h) (fun k hk=>hk.2.1)
 have hne:∀j k,w.heap.size+2≤k→k≠(⟨w.heap.size+1,j,none⟩:Addr).block:=fun j k hk=>by show k≠w.heap.size+1;omega
 exact ⟨Kd.S_lower (Kd.S_mono (Kd.S_far (Kd.S_far (Kd.S_far (Kd.S_far h' (hne 0) u0) (hne 1) u1) (hne 2) u2) (hne 3) u3) (fun _ _=>trivial)) zq3,
  zD (zD (zD (zD hb (Nat.le_succ _)) (Nat.le_succ _)) (Nat.le_succ _)) (Nat.le_succ _)⟩
theorem b_alloc {w W:World} {v:Value} {fs:List S122} (h:Kd.S k122 122 W w.heap.size (fun _=>True) v fs∧Below w.heap.size w W) {o:Obj}:Kd.S k122 122 (W.alloc o) w.heap.size (fun _=>True) v fs∧Below w.heap.size w (W.alloc o):=⟨Kd.S_alloc h.1 o,zi h.2 o⟩
theorem implBest_c (k:Nat) (l0:List ByteArray) (l1:List S135) (s0 s1:ByteArray) (m0 m1:S53) (o0 o1:Bool) (A0:Option Addr) (c0:Nat) (A1:Option Addr) (c1:Nat) (w:World) (r0:∀w,Calls Try.prog 119 #[.string s0] w (zda w m0 o0)) (r1:∀w,Calls Try.prog 119 #[.string s1] w (zda w m1 o1)) (hp0:impl_ReadPage.f k l0 l1 0=some s0) (hp1:impl_ReadPage.f k l0 l1 1=some s1)
  (q0:Kd.C Kd.string w A0 l0.length l0) (j0:l0.length≤c0) (q1:Kd.C k135 w A1 l1.length l1) (j1:l1.length≤c1) (m:S53) (ok:Bool) (hres:(o0=true∧o1=false∧m0=m∧ok=true)∨(o0=true∧o1=true∧m0.f0≥m1.f0∧m0=m∧ok=true)∨(o0=true∧o1=true∧¬m0.f0≥m1.f0∧m1=m∧ok=true)∨(o0=false∧o1=true∧m1=m∧ok=true)∨(o0=false∧o1=false∧m=⟨0,0,0,[]⟩∧ok=false)):
  Calls Try.prog 67 #[.agg #[.slice A0 l0.length c0,.slice A1 l1.length c1]] w (zda w m ok):=by
 have R0:=zz r0
 have R1:=zz r1
 have P0:=zz hp0
 have P1:=zz hp1
 have Q0:=zz q0
 have J0:=zz j0
 have Q1:=zz q1
 have J1:=zz j1
 have HRES:=zz hres
 clear r0 r1 hp0 hp1 q0 j0 q1 j1 hres
 go_enter Try.func67,Try.ntmps67
 go_wp2_with fail
 have HB:=zz (zi (zi (z0a w.heap.size w) (.cells #[.slice A0 l0.length c0,.slice A1 l1.length c1] 32)) (.cells #[.int .i64 0,.int .i64 0,.int .i64 0,.slice none 0 0] 53))
 ((with_reducible refine (impl_ReadPage.calls k A0 c0 l0 A1 c1 l1 0 s0 _ (Kd.C_below Q0.1 HB.1) J0.1 (Kd.C_below Q1.1 HB.1) J1.1 P0.1).mono ?_);rintro e w1 ⟨rfl,hb1⟩)
 obtain ⟨hc1,hf1⟩:=bcell hb1
 have hz1:w.heap.size+2≤w1.heap.size:=zq83
 have X0:=zz (zj (zo (zM w (.cells #[.slice A0 l0.length c0,.slice A1 l1.length c1] 32)) (.cells #[.int .i64 0,.int .i64 0,.int .i64 0,.slice none 0 0] 53)) hb1)
 have Y0:=zz (zj (by have h:=zM (w.alloc (.cells #[.slice A0 l0.length c0,.slice A1 l1.length c1] 32)) (.cells #[.int .i64 0,.int .i64 0,.int .i64 0,.slice none 0 0] 53);have e:(w.alloc (.cells #[.slice A0 l0.length c0,.slice A1 l1.length c1] 32)).heap.size=w.heap.size+1:=(by simp);rw [e] at h;exact h) hb1)
 have HB1:=zz (zf HB.1 hb1)
 clear hc1 hf1 hb1 HB
 go_wp2_with fail
 ((with_reducible refine (R0.1 w1).mono ?_);rintro e w2 ⟨A2,c2,rfl,hS0,hb2⟩)
 have X1:=zz (zj X0.1 hb2)
 have Y1:=zz (zj Y0.1 hb2)
 have HB2:=zz (zf HB1.1 hb2)
 have hz2:w1.heap.size≤w2.heap.size:=hb2.size
 have S0:=zz hS0
 clear hS0 hb2 X0 Y0 HB1
 have hx0:w2.cell? ⟨w.heap.size,0,none⟩=some (.slice A0 l0.length c0):=(zd X1.1 0).trans rfl
 have hx1:w2.cell? ⟨w.heap.size,1,none⟩=some (.slice A1 l1.length c1):=(zd X1.1 1).trans rfl
 have hlx:=zE X1.1
 go_wp2_with fail
 obtain ⟨M0,hM0⟩:∃o,o=Obj.cells #[.int .i64 m0.f0,.int .i64 m0.f1,.int .i64 m0.f2,.slice A2 m0.f3.length c2] 53 (0,0):=⟨_,rfl⟩
 have Z0:=zz (zM w2 (.cells #[.int .i64 m0.f0,.int .i64 m0.f1,.int .i64 m0.f2,.slice A2 m0.f3.length c2] 53))
 have Y2:=zz (zo Y1.1 (.cells #[.int .i64 m0.f0,.int .i64 m0.f1,.int .i64 m0.f2,.slice A2 m0.f3.length c2] 53))
 have HB3:=zz (zi HB2.1 (.cells #[.int .i64 m0.f0,.int .i64 m0.f1,.int .i64 m0.f2,.slice A2 m0.f3.length c2] 53))
 have T0:=zz (Kd.S_alloc S0.1 (.cells #[.int .i64 m0.f0,.int .i64 m0.f1,.int .i64 m0.f2,.slice A2 m0.f3.length c2] 53))
 clear hM0 M0 X1 Y1 HB2 S0
 ((with_reducible refine (impl_ReadPage.calls k A0 c0 l0 A1 c1 l1 1 s1 _ (Kd.C_below Q0.1 HB3.1) J0.1 (Kd.C_below Q1.1 HB3.1) J1.1 P1.1).mono ?_);rintro e w3 ⟨rfl,hb3⟩)
 have hz3:w2.heap.size+1≤w3.heap.size:=by have hh:=hb3.size;(try simp at hh);omega
 have Y3:=zz (zj Y2.1 hb3)
 have Z1:=zz (zj Z0.1 hb3)
 have T1:=zz (Kd.S_below T0.1 hb3)
 have HB4:=zz (zf HB3.1 hb3)
 clear hx0 hx1 hb3 Y2 Z0 T0 HB3 hlx
 go_wp2_with fail
 ((with_reducible refine (R1.1 w3).mono ?_);rintro e w4 ⟨A3,c3,rfl,hS1,hb4⟩)
 have hz4:w3.heap.size≤w4.heap.size:=hb4.size
 have Y4:=zz (zj Y3.1 hb4)
 have Z2:=zz (zj Z1.1 hb4)
 have T2:=zz (Kd.S_below T1.1 hb4)
 have U2:=zz hS1
 have HB5:=zz (zf HB4.1 hb4)
 clear hb4 Y3 Z1 T1 HB4 hS1
 have hm0:w4.cell? ⟨w2.heap.size,0,none⟩=some (.int .i64 m0.f0):=(zd Z2.1 0).trans rfl
 have hm1:w4.cell? ⟨w2.heap.size,1,none⟩=some (.int .i64 m0.f1):=(zd Z2.1 1).trans rfl
 have hm2:w4.cell? ⟨w2.heap.size,2,none⟩=some (.int .i64 m0.f2):=(zd Z2.1 2).trans rfl
 have hm3:w4.cell? ⟨w2.heap.size,3,none⟩=some (.slice A2 m0.f3.length c2):=(zd Z2.1 3).trans rfl
 have ho0:w4.cell? ⟨w.heap.size+1,0,none⟩=some (.int .i64 0):=(zd Y4.1 0).trans rfl
 have ho1:w4.cell? ⟨w.heap.size+1,1,none⟩=some (.int .i64 0):=(zd Y4.1 1).trans rfl
 have ho2:w4.cell? ⟨w.heap.size+1,2,none⟩=some (.int .i64 0):=(zd Y4.1 2).trans rfl
 have ho3:w4.cell? ⟨w.heap.size+1,3,none⟩=some (.slice none 0 0):=(zd Y4.1 3).trans rfl
 have hfo:=zh Y4.1
 have hlm:=zE Z2.1
 have hly:=zE Y4.1
 have hN:=zz (show Kd.S k122 122 w4 (w.heap.size+2) (fun _=>True) (.slice A2 m0.f3.length c2) m0.f3 from Kd.S_lower T2.1 zq3)
 have hN1:=zz (show Kd.S k122 122 w4 (w.heap.size+2) (fun _=>True) (.slice A3 m1.f3.length c3) m1.f3 from Kd.S_lower U2.1 zq3)
 clear T2 U2
 rcases HRES.1 with ⟨rfl,rfl,rfl,rfl⟩|⟨rfl,rfl,hge,rfl,rfl⟩|⟨rfl,rfl,hge,rfl,rfl⟩|⟨rfl,rfl,rfl,rfl⟩|⟨rfl,rfl,rfl,rfl⟩
 ·exact zq92
 ·exact zq92
 ·exact zq91
 ·exact zq91
 ·exact zq111
theorem specBest_c (k:Nat) (l0:List ByteArray) (l1:List S135) (s0 s1:ByteArray) (m0 m1:S53) (o0 o1:Bool) (A0:Option Addr) (c0:Nat) (A1:Option Addr) (c1:Nat) (w:World) (r0:∀w,Calls Try.prog 116 #[.string s0] w (zda w m0 o0)) (r1:∀w,Calls Try.prog 116 #[.string s1] w (zda w m1 o1)) (hp0:spec_ReadPage.f k l0 l1 0=some s0) (hp1:spec_ReadPage.f k l0 l1 1=some s1)
  (q0:Kd.C Kd.string w A0 l0.length l0) (j0:l0.length≤c0) (q1:Kd.C k135 w A1 l1.length l1) (j1:l1.length≤c1) (m:S53) (ok:Bool) (hres:(o0=true∧o1=false∧m0=m∧ok=true)∨(o0=true∧o1=true∧m0.f0≥m1.f0∧m0=m∧ok=true)∨(o0=true∧o1=true∧¬m0.f0≥m1.f0∧m1=m∧ok=true)∨(o0=false∧o1=true∧m1=m∧ok=true)∨(o0=false∧o1=false∧m=⟨0,0,0,[]⟩∧ok=false)):
  Calls Try.prog 63 #[.agg #[.slice A0 l0.length c0,.slice A1 l1.length c1]] w (zda w m ok):=by
 have R0:=zz r0
 have R1:=zz r1
 have P0:=zz hp0
 have P1:=zz hp1
 have Q0:=zz q0
 have J0:=zz j0
 have Q1:=zz q1
 have J1:=zz j1
 have HRES:=zz hres
 clear r0 r1 hp0 hp1 q0 j0 q1 j1 hres
 go_enter Try.func63,Try.ntmps63
 go_wp2_with fail
 have HB:=zz (zi (zi (z0a w.heap.size w) (.cells #[.slice A0 l0.length c0,.slice A1 l1.length c1] 32)) (.cells #[.int .i64 0,.int .i64 0,.int .i64 0,.slice none 0 0] 53))
 ((with_reducible refine (spec_ReadPage.calls k A0 c0 l0 A1 c1 l1 0 s0 _ (Kd.C_below Q0.1 HB.1) J0.1 (Kd.C_below Q1.1 HB.1) J1.1 P0.1).mono ?_);rintro e w1 ⟨rfl,hb1⟩)
 obtain ⟨hc1,hf1⟩:=bcell hb1
 have hz1:w.heap.size+2≤w1.heap.size:=zq83
 have X0:=zz (zj (zo (zM w (.cells #[.slice A0 l0.length c0,.slice A1 l1.length c1] 32)) (.cells #[.int .i64 0,.int .i64 0,.int .i64 0,.slice none 0 0] 53)) hb1)
 have Y0:=zz (zj (by have h:=zM (w.alloc (.cells #[.slice A0 l0.length c0,.slice A1 l1.length c1] 32)) (.cells #[.int .i64 0,.int .i64 0,.int .i64 0,.slice none 0 0] 53);have e:(w.alloc (.cells #[.slice A0 l0.length c0,.slice A1 l1.length c1] 32)).heap.size=w.heap.size+1:=(by simp);rw [e] at h;exact h) hb1)
 have HB1:=zz (zf HB.1 hb1)
 clear hc1 hf1 hb1 HB
 go_wp2_with fail
 ((with_reducible refine (R0.1 w1).mono ?_);rintro e w2 ⟨A2,c2,rfl,hS0,hb2⟩)
 have X1:=zz (zj X0.1 hb2)
 have Y1:=zz (zj Y0.1 hb2)
 have HB2:=zz (zf HB1.1 hb2)
 have hz2:w1.heap.size≤w2.heap.size:=hb2.size
 have S0:=zz hS0
 clear hS0 hb2 X0 Y0 HB1
 have hx0:w2.cell? ⟨w.heap.size,0,none⟩=some (.slice A0 l0.length c0):=(zd X1.1 0).trans rfl
 have hx1:w2.cell? ⟨w.heap.size,1,none⟩=some (.slice A1 l1.length c1):=(zd X1.1 1).trans rfl
 have hlx:=zE X1.1
 go_wp2_with fail
 obtain ⟨M0,hM0⟩:∃o,o=Obj.cells #[.int .i64 m0.f0,.int .i64 m0.f1,.int .i64 m0.f2,.slice A2 m0.f3.length c2] 53 (0,0):=⟨_,rfl⟩
 have Z0:=zz (zM w2 (.cells #[.int .i64 m0.f0,.int .i64 m0.f1,.int .i64 m0.f2,.slice A2 m0.f3.length c2] 53))
 have Y2:=zz (zo Y1.1 (.cells #[.int .i64 m0.f0,.int .i64 m0.f1,.int .i64 m0.f2,.slice A2 m0.f3.length c2] 53))
 have HB3:=zz (zi HB2.1 (.cells #[.int .i64 m0.f0,.int .i64 m0.f1,.int .i64 m0.f2,.slice A2 m0.f3.length c2] 53))
 have T0:=zz (Kd.S_alloc S0.1 (.cells #[.int .i64 m0.f0,.int .i64 m0.f1,.int .i64 m0.f2,.slice A2 m0.f3.length c2] 53))
 clear hM0 M0 X1 Y1 HB2 S0
 ((with_reducible refine (spec_ReadPage.calls k A0 c0 l0 A1 c1 l1 1 s1 _ (Kd.C_below Q0.1 HB3.1) J0.1 (Kd.C_below Q1.1 HB3.1) J1.1 P1.1).mono ?_);rintro e w3 ⟨rfl,hb3⟩)
 have hz3:w2.heap.size+1≤w3.heap.size:=by have hh:=hb3.size;(try simp at hh);omega
 have Y3:=zz (zj Y2.1 hb3)
 have Z1:=zz (zj Z0.1 hb3)
 have T1:=zz (Kd.S_below T0.1 hb3)
 have HB4:=zz (zf HB3.1 hb3)
 clear hx0 hx1 hb3 Y2 Z0 T0 HB3 hlx
 go_wp2_with fail
 ((with_reducible refine (R1.1 w3).mono ?_);rintro e w4 ⟨A3,c3,rfl,hS1,hb4⟩)
 have hz4:w3.heap.size≤w4.heap.size:=hb4.size
 have Y4:=zz (zj Y3.1 hb4)
 have Z2:=zz (zj Z1.1 hb4)
 have T2:=zz (Kd.S_below T1.1 hb4)
 have U2:=zz hS1
 have HB5:=zz (zf HB4.1 hb4)
 clear hb4 Y3 Z1 T1 HB4 hS1
 have hm0:w4.cell? ⟨w2.heap.size,0,none⟩=some (.int .i64 m0.f0):=(zd Z2.1 0).trans rfl
 have hm1:w4.cell? ⟨w2.heap.size,1,none⟩=some (.int .i64 m0.f1):=(zd Z2.1 1).trans rfl
 have hm2:w4.cell? ⟨w2.heap.size,2,none⟩=some (.int .i64 m0.f2):=(zd Z2.1 2).trans rfl
 have hm3:w4.cell? ⟨w2.heap.size,3,none⟩=some (.slice A2 m0.f3.length c2):=(zd Z2.1 3).trans rfl
 have ho0:w4.cell? ⟨w.heap.size+1,0,none⟩=some (.int .i64 0):=(zd Y4.1 0).trans rfl
 have ho1:w4.cell? ⟨w.heap.size+1,1,none⟩=some (.int .i64 0):=(zd Y4.1 1).trans rfl
 have ho2:w4.cell? ⟨w.heap.size+1,2,none⟩=some (.int .i64 0):=(zd Y4.1 2).trans rfl
 have ho3:w4.cell? ⟨w.heap.size+1,3,none⟩=some (.slice none 0 0):=(zd Y4.1 3).trans rfl
 have hfo:=zh Y4.1
 have hlm:=zE Z2.1
 have hly:=zE Y4.1
 have hN:=zz (show Kd.S k122 122 w4 (w.heap.size+2) (fun _=>True) (.slice A2 m0.f3.length c2) m0.f3 from Kd.S_lower T2.1 zq3)
 have hN1:=zz (show Kd.S k122 122 w4 (w.heap.size+2) (fun _=>True) (.slice A3 m1.f3.length c3) m1.f3 from Kd.S_lower U2.1 zq3)
 clear T2 U2
 rcases HRES.1 with ⟨rfl,rfl,rfl,rfl⟩|⟨rfl,rfl,hge,rfl,rfl⟩|⟨rfl,rfl,hge,rfl,rfl⟩|⟨rfl,rfl,rfl,rfl⟩|⟨rfl,rfl,rfl,rfl⟩
 ·exact zq92
 ·exact zq92
 ·exact zq91
 ·exact zq91
 ·exact zq111
def ImplBest (k:Nat) (d:(List ByteArray×List S135)) (m:S53) (ok:Bool):Prop:=∃(s0 s1:ByteArray) (m0 m1:S53) (o0 o1:Bool),impl_ReadPage.f k d.1 d.2 0=some s0∧impl_ReadPage.f k d.1 d.2 1=some s1∧(∀w,Calls Try.prog 119 #[.string s0] w (zda w m0 o0))∧(∀w,Calls Try.prog 119 #[.string s1] w (zda w m1 o1))∧
 ((o0=true∧o1=false∧m0=m∧ok=true)∨(o0=true∧o1=true∧m0.f0≥m1.f0∧m0=m∧ok=true)∨(o0=true∧o1=true∧¬m0.f0≥m1.f0∧m1=m∧ok=true)∨(o0=false∧o1=true∧m1=m∧ok=true)∨(o0=false∧o1=false∧m=⟨0,0,0,[]⟩∧ok=false))
theorem implBest_o (k:Nat) (d:(List ByteArray×List S135)) (m:S53) (ok:Bool) {cs:List Value} (w:World) (h:kDisk.K w d cs) (hb:ImplBest k d m ok):
  Calls Try.prog 67 #[.agg cs.toArray] w fun e w'=>∃ds:List Value,e= .returned (.tuple #[.agg ds.toArray,.bool ok])∧k53.M w' w.heap.size (Fr w w') m ds∧Below w.heap.size w w':=by
 obtain ⟨l0,l1⟩:=d
 obtain ⟨s0,s1,m0,m1,o0,o1,h1,h2,h3,h4,h5⟩:=hb
 obtain ⟨A0,c0,A1,c1,rfl,j0,q0,j1,q1⟩:=zma h
 exact (implBest_c k l0 l1 s0 s1 m0 m1 o0 o1 A0 c0 A1 c1 w h3 h4 h1 h2 q0 j0 q1 j1 m ok h5).mono fun e w' ⟨A,c,e1,hS,hb⟩=>⟨_,e1,k53_mkM _ _ _ m (Kd.S_mono (Kd.S_bound hS) (fun k hk=>⟨hk.2.1,hk.2.2.1⟩)),hb⟩
theorem implDiskOk_o (d:(List ByteArray×List S135)) (b:Bool) {cs:List Value} (w:World) (h:kDisk.K w d cs) (hd:impl_DiskOk.f d.1 d.2=some b):Calls Try.prog 68 #[.agg cs.toArray] w fun e w'=>e= .returned (.bool b)∧Below w.heap.size w w':=by
 obtain ⟨l0,l1⟩:=d
 obtain ⟨A0,c0,A1,c1,rfl,j0,q0,j1,q1⟩:=zma h
 exact impl_DiskOk.calls A0 c0 l0 A1 c1 l1 b w q0 j0 q1 j1 hd
def SpecBest (k:Nat) (d:(List ByteArray×List S135)) (m:S53) (ok:Bool):Prop:=∃(s0 s1:ByteArray) (m0 m1:S53) (o0 o1:Bool),spec_ReadPage.f k d.1 d.2 0=some s0∧spec_ReadPage.f k d.1 d.2 1=some s1∧(∀w,Calls Try.prog 116 #[.string s0] w (zda w m0 o0))∧(∀w,Calls Try.prog 116 #[.string s1] w (zda w m1 o1))∧
 ((o0=true∧o1=false∧m0=m∧ok=true)∨(o0=true∧o1=true∧m0.f0≥m1.f0∧m0=m∧ok=true)∨(o0=true∧o1=true∧¬m0.f0≥m1.f0∧m1=m∧ok=true)∨(o0=false∧o1=true∧m1=m∧ok=true)∨(o0=false∧o1=false∧m=⟨0,0,0,[]⟩∧ok=false))
theorem specBest_o (k:Nat) (d:(List ByteArray×List S135)) (m:S53) (ok:Bool) {cs:List Value} (w:World) (h:kDisk.K w d cs) (hb:SpecBest k d m ok):
  Calls Try.prog 63 #[.agg cs.toArray] w fun e w'=>∃ds:List Value,e= .returned (.tuple #[.agg ds.toArray,.bool ok])∧k53.M w' w.heap.size (Fr w w') m ds∧Below w.heap.size w w':=by
 obtain ⟨l0,l1⟩:=d
 obtain ⟨s0,s1,m0,m1,o0,o1,h1,h2,h3,h4,h5⟩:=hb
 obtain ⟨A0,c0,A1,c1,rfl,j0,q0,j1,q1⟩:=zma h
 exact (specBest_c k l0 l1 s0 s1 m0 m1 o0 o1 A0 c0 A1 c1 w h3 h4 h1 h2 q0 j0 q1 j1 m ok h5).mono fun e w' ⟨A,c,e1,hS,hb⟩=>⟨_,e1,k53_mkM _ _ _ m (Kd.S_mono (Kd.S_bound hS) (fun k hk=>⟨hk.2.1,hk.2.2.1⟩)),hb⟩
theorem specDiskOk_o (k:Nat) (d:(List ByteArray×List S135)) (b:Bool) {cs:List Value} (w:World) (h:kDisk.K w d cs) (hd:spec_DiskOk.f k d.1 d.2=some b):Calls Try.prog 64 #[.agg cs.toArray] w fun e w'=>e= .returned (.bool b)∧Below w.heap.size w w':=by
 obtain ⟨l0,l1⟩:=d
 obtain ⟨A0,c0,A1,c1,rfl,j0,q0,j1,q1⟩:=zma h
 exact spec_DiskOk.calls k A0 c0 l0 A1 c1 l1 b w q0 j0 q1 j1 hd
theorem zero_rs {W:World} {base:Nat}:(Own.srow 118 k118).M W base (fun _=>False) [] [.slice none 0 0]:=⟨_,rfl,Kd.S_nil _ _ _ _ _⟩
theorem zero_row {α:Type} (d:Kd α) (e:Nat) {W:World} {base:Nat}:(Own.srow e d).M W base (fun _=>False) [] [.slice none 0 0]:=⟨_,rfl,Kd.S_nil _ _ _ _ _⟩
theorem zero_32 {W:World} {base:Nat}:kDisk.M W base (fun _=>False) ([],[]) [.slice none 0 0,.slice none 0 0]:=kDisk.M_mono (ok:=fun k=>False∨False) (fun _ h=>by rcases h with h|h<;>exact h) (comb (a:=Own.srow 9 Kd.string) (b:=Own.srow 135 k135) (zero_row Kd.string 9) (zero_row k135 135) (fun _ h=>h.elim))
theorem zero_rest {W:World} {base:Nat}:(Own.apair (Own.srow 118 k118) (Own.apair kTxn (Own.apair Kd.bool Kd.bool))).M W base (fun _=>False) ([],((⟨0,0,0,[]⟩:S53),([],[],0,[],[],[]),0),false,false) [.slice none 0 0,.int .i64 0,.int .i64 0,.int .i64 0,.slice none 0 0,.slice none 0 0,.slice none 0 0,.int .i64 0,.slice none 0 0,.slice none 0 0,.slice none 0 0,.int .i64 0,.bool false,.bool false]:=(Own.apair (Own.srow 118 k118) (Own.apair kTxn (Own.apair Kd.bool Kd.bool))).M_mono (fun _ h=>by rcases h with h|h|h|h<;>exact h) (comb zero_rs (comb zero_56 (comb Mbool Mbool (fun _ h=>h.elim)) (fun _ h=>h.elim)) (fun _ h=>h.elim))
theorem zero_58 {W:World} {base:Nat}:kStore.M W base (fun _=>False) (([],[]),(⟨0,0,0,[]⟩:S53),[],((⟨0,0,0,[]⟩:S53),([],[],0,[],[],[]),0),false,false) Z58:=kStore.M_mono (fun _ h=>by rcases h with h|h|h<;>exact h) (comb zero_32 (comb zero_53 zero_rest (fun _ h=>h.elim)) (fun _ h=>h.elim))
theorem implOpen_n (k:Nat) (l0:List ByteArray) (l1:List S135) (m:S53) {cs:List Value} (w:World) (h:kDisk.K w (l0,l1) cs) (hb:ImplBest k (l0,l1) m false):
  Calls Try.prog 25 #[.agg cs.toArray] w fun e w'=>∃ds:List Value,e= .returned (.tuple #[.agg ds.toArray,.bool false])∧kStore.M w' w.heap.size (Fr w w') (([],[]),(⟨0,0,0,[]⟩:S53),[],((⟨0,0,0,[]⟩:S53),([],[],0,[],[],[]),0),false,false) ds∧Below w.heap.size w w':=by
 have KS:=zz h;have Lcs:=zz (show cs.length=2 from Kd.K_len _ h);clear h
 have HB:=zz hb;clear hb
 have O:=zz (z2a w.heap.size)
 have E:=zz (Env.start w)
 go_enter Try.func25,Try.ntmps25
 go_wp2_with (first|((with_reducible refine zg (N:=7) rfl ?_);replace O:=zz (And.intro E.1.le O.1);replace E:=zz (E.1.alloc cs 32 (g:=w.heap.size) rfl);replace E:=zz (E.1.alloc Z58 58 (g:=(w.heap.size+1)) zq29);refine zl rfl 32 _ rfl w.heap.size 0 [] cs [] _ rfl (E.1.box 1 rfl) zq14 (rfl) Try.underlying32 rfl zq62 ?_))
 ((with_reducible refine (implBest_o k (l0,l1) m false _ (E.1.K KS.1) HB.1).mono ?_);rintro e w5 ⟨d0,rfl,M0,hb⟩)
 have q:=E.1.made4 O.1 4 rfl M0 hb;clear O E M0 hb;obtain ⟨n3_,m4_,L0,Q0,O,E⟩:=q
 go_wp2_with (first|((with_reducible refine zI (t:=53) (p:=4) rfl ?_);replace O:=zz (And.intro E.1.le O.1);replace E:=zz (E.1.alloc Z53 53 (g:=w5.heap.size) rfl);refine zK rfl 53 _ _ rfl rfl w5.heap.size 0 d0 [] Z53 [] rfl rfl (E.1.box 0 rfl) zq14 (rfl) (by rw [L0.1];rfl) (zq30 L0.1) Q0.1 ?_;intro W5_ hp hn;replace E:=E.1.put2 0 hp hn zq23;clear hp hn)|((with_reducible refine zI (t:=58) (p:=2) rfl ?_);refine zK rfl 58 _ _ rfl rfl (w.heap.size+1) 0 Z58 [] Z58 [] rfl rfl (E.1.box 2 rfl) zq14 (rfl) (rfl) zq8 (zw rfl (zw rfl (zw rfl (zw rfl (zw rfl (zw rfl (zw rfl (zw rfl (zw rfl (zw rfl (zw rfl (zw rfl (zw rfl (zw rfl (zw rfl (zw rfl (zw rfl (zw rfl (zw rfl (zw rfl onesN)))))))))))))))))))) ?_;intro W6_ hp hn;replace E:=E.1.put2 2 hp hn zq23;clear hp hn))
 have BX:=zz (show _=some (Obj.cells (Z58:List Value).toArray 58 (0,0)) from by first|exact (E.1.box 2 rfl)|simpa only [aA,aN,aL] using (E.1.box 2 rfl))
 refine bodyPost_ret (zza (rs:=[.cell 2 58,.tmp 3]) rfl zq29 (.cell (w.heap.size+1) 58 _ _ _ rfl BX.1 Try.underlying58 rfl zq8 (.tmp .nil))) rfl ?_
 exact ⟨_,rfl,(fresh (d:=kStore) zero_58 (z2a _)),E.1.below⟩
theorem implOpen_d (k:Nat) (l0:List ByteArray) (l1:List S135) (m:S53) {cs:List Value} (w:World) (h:kDisk.K w (l0,l1) cs) (hb:ImplBest k (l0,l1) m true) (hd:impl_DiskOk.f l0 l1=some false):
  Calls Try.prog 25 #[.agg cs.toArray] w fun e w'=>∃ds:List Value,e= .returned (.tuple #[.agg ds.toArray,.bool false])∧kStore.M w' w.heap.size (Fr w w') (([],[]),(⟨0,0,0,[]⟩:S53),[],((⟨0,0,0,[]⟩:S53),([],[],0,[],[],[]),0),false,false) ds∧Below w.heap.size w w':=by
 have KS:=zz h;have Lcs:=zz (show cs.length=2 from Kd.K_len _ h);clear h
 have HB:=zz hb;clear hb
 have HD:=zz hd;clear hd
 have O:=zz (z2a w.heap.size)
 have E:=zz (Env.start w)
 go_enter Try.func25,Try.ntmps25
 go_wp2_with (first|((with_reducible refine zg (N:=7) rfl ?_);replace O:=zz (And.intro E.1.le O.1);replace E:=zz (E.1.alloc cs 32 (g:=w.heap.size) rfl);replace E:=zz (E.1.alloc Z58 58 (g:=(w.heap.size+1)) zq29);refine zl rfl 32 _ rfl w.heap.size 0 [] cs [] _ rfl (E.1.box 1 rfl) zq14 (rfl) Try.underlying32 rfl zq62 ?_))
 ((with_reducible refine (implBest_o k (l0,l1) m true _ (E.1.K KS.1) HB.1).mono ?_);rintro e w5 ⟨d0,rfl,M0,hb⟩)
 have q:=E.1.made4 O.1 4 rfl M0 hb;clear O E M0 hb;obtain ⟨n3_,m4_,L0,Q0,O,E⟩:=q
 go_wp2_with (first|((with_reducible refine zI (t:=53) (p:=4) rfl ?_);replace O:=zz (And.intro E.1.le O.1);replace E:=zz (E.1.alloc Z53 53 (g:=w5.heap.size) rfl);refine zK rfl 53 _ _ rfl rfl w5.heap.size 0 d0 [] Z53 [] rfl rfl (E.1.box 0 rfl) zq14 (rfl) (by rw [L0.1];rfl) (zq30 L0.1) Q0.1 ?_;intro W5_ hp hn;replace E:=E.1.put2 0 hp hn zq23;clear hp hn)|((with_reducible refine zg (N:=14) rfl ?_);refine zna zq19 32 _ rfl w.heap.size 0 [] cs [] _ rfl (E.1.box 3 rfl) zq14 (rfl) Try.underlying32 rfl zq62 ?_))
 ((with_reducible refine (implDiskOk_o (l0,l1) false _ (E.1.K KS.1) HD.1).mono ?_);rintro e w6_ ⟨rfl,hb⟩)
 replace E:=zz (E.1.call hb);clear hb
 go_wp2_with (first|((with_reducible refine zI (t:=58) (p:=2) rfl ?_);refine zK rfl 58 _ _ rfl rfl (w.heap.size+1) 0 Z58 [] Z58 [] rfl rfl (E.1.box 2 rfl) zq14 (rfl) (rfl) zq8 (zw rfl (zw rfl (zw rfl (zw rfl (zw rfl (zw rfl (zw rfl (zw rfl (zw rfl (zw rfl (zw rfl (zw rfl (zw rfl (zw rfl (zw rfl (zw rfl (zw rfl (zw rfl (zw rfl (zw rfl onesN)))))))))))))))))))) ?_;intro W7_ hp hn;replace E:=E.1.put2 2 hp hn zq23;clear hp hn))
 have BX:=zz (show _=some (Obj.cells (Z58:List Value).toArray 58 (0,0)) from by first|exact (E.1.box 2 rfl)|simpa only [aA,aN,aL] using (E.1.box 2 rfl))
 refine bodyPost_ret (zza (rs:=[.cell 2 58,.tmp 3]) rfl zq29 (.cell (w.heap.size+1) 58 _ _ _ rfl BX.1 Try.underlying58 rfl zq8 (.tmp .nil))) rfl ?_
 exact ⟨_,rfl,(fresh (d:=kStore) zero_58 (z2a _)),E.1.below⟩
def implOpen_t_T4:Bool×List (List Nat×List Nat):=(true,[([],[]),([0],[0]),([],[]),([1,2],[1,2]),([3,1,0,1,2,3],[3]),([4,0,1,2,3,4],[])])
def implOpen_t_B4:List Nat:=[0,1,0,7,15,31]
theorem implOpen_t_ok4_0:regT (zgb Try.f25 4) implOpen_t_T4 implOpen_t_B4 [] (.t 0 (.t 2 (.e 1 (.p 3 (.e 4 (.p 5 .d))))))=true:=zq8
theorem implOpen_t (k:Nat) (l0:List ByteArray) (l1:List S135) (m:S53) {cs:List Value} (w:World) (h:kDisk.K w (l0,l1) cs) (hb:ImplBest k (l0,l1) m true) (hd:impl_DiskOk.f l0 l1=some true) (hl:l0.length≤2000000∧l1.length≤2000000):
  Calls Try.prog 25 #[.agg cs.toArray] w fun e w'=>∃ds:List Value,e= .returned (.tuple #[.agg ds.toArray,.bool true])∧kStore.M w' w.heap.size (Fr w w') ((l0,l1),m,[],((⟨0,0,0,[]⟩:S53),([],[],0,[],[],[]),0),false,false) ds∧Below w.heap.size w w':=by
 have KS:=zz h;have Lcs:=zz (show cs.length=2 from Kd.K_len _ h);clear h
 have HB:=zz hb;clear hb
 have HD:=zz hd;clear hd
 have FL:=zz hl;clear hl
 have O:=zz (z2a w.heap.size)
 have E:=zz (Env.start w)
 go_enter Try.func25,Try.ntmps25
 go_wp2_with (first|((with_reducible refine zg (N:=7) rfl ?_);replace O:=zz (And.intro E.1.le O.1);replace E:=zz (E.1.alloc cs 32 (g:=w.heap.size) rfl);replace E:=zz (E.1.alloc Z58 58 (g:=(w.heap.size+1)) zq29);refine zl rfl 32 _ rfl w.heap.size 0 [] cs [] _ rfl (E.1.box 1 rfl) zq14 (rfl) Try.underlying32 rfl zq62 ?_))
 ((with_reducible refine (implBest_o k (l0,l1) m true _ (E.1.K KS.1) HB.1).mono ?_);rintro e w5 ⟨d0,rfl,M0,hb⟩)
 have q:=E.1.made4 O.1 4 rfl M0 hb;clear O E M0 hb;obtain ⟨n3_,m4_,L0,Q0,O,E⟩:=q
 go_wp2_with (first|((with_reducible refine zI (t:=53) (p:=4) rfl ?_);replace O:=zz (And.intro E.1.le O.1);replace E:=zz (E.1.alloc Z53 53 (g:=w5.heap.size) rfl);refine zK rfl 53 _ _ rfl rfl w5.heap.size 0 d0 [] Z53 [] rfl rfl (E.1.box 0 rfl) zq14 (rfl) (by rw [L0.1];rfl) (zq30 L0.1) Q0.1 ?_;intro W5_ hp hn;replace E:=E.1.put2 0 hp hn zq23;clear hp hn)|((with_reducible refine zg (N:=14) rfl ?_);refine zna zq19 32 _ rfl w.heap.size 0 [] cs [] _ rfl (E.1.box 3 rfl) zq14 (rfl) Try.underlying32 rfl zq62 ?_))
 ((with_reducible refine (implDiskOk_o (l0,l1) true _ (E.1.K KS.1) HD.1).mono ?_);rintro e w6_ ⟨rfl,hb⟩)
 replace E:=zz (E.1.call hb);clear hb
 go_upto_region 4 with (fail)
 replace E:=zz E.1.drew
 refine tre_start implOpen_t_ok4_0 (S:=fun w'=>w'.heap[w.heap.size]?=some (.cells (cs:List Value).toArray 32 (0,0))∧w'.heap[w5.heap.size]?=some (.cells (([]++(d0++[])):List Value).toArray 53 (0,0))∧True) zq8 (fun _ _ _ _ h=>h) ⟨(E.1.box 3 rfl),(E.1.box 0 rfl),trivial⟩ (fun hHeld=> ?_)
 generalize hq:World.drew _=w7_ at hHeld ⊢;replace E:=E.1.to hq;clear hq
 refine zBa (a':= ?_) rfl rfl zq19 32 _ rfl w.heap.size 0 [] cs [] _ rfl (fun w' hs=>hs.1) zq14 (rfl) Try.underlying32 rfl zq62 zq21 ?_
 refine zBa (a':= ?_) rfl rfl zq19 53 _ rfl w5.heap.size 0 [] d0 [] _ rfl (fun w' hs=>hs.2.1) zq14 (rfl) Try.underlying53 rfl (zq30 L0.1) zq21 ?_
 refine tre_e rfl (ev1_call rfl Try.func69 zq8 rfl #[.agg cs.toArray] zq19 rfl zq20 ?_)
 with_reducible refine (cloneDisk_c (l0,l1) _ (E.1.K KS.1) FL.1).mono ?_
 rintro e w10_ ⟨d1,rfl,M1,hb⟩
 have q:=E.1.made4 O.1 2 rfl M1 hb;clear O E M1 hb;obtain ⟨n12_,m13_,L1,Q1,O,E⟩:=q
 refine ⟨_,rfl,⟨(E.1.box 4 rfl),(E.1.box 1 rfl),trivial⟩,(fun hHeld=> ?_)⟩
 refine zWa (a':= ?_) zq21 ?_
 obtain ⟨c0,E0,L2,O0⟩:=lump_ (d1++(d0++[.slice none 0 0,.int .i64 0,.int .i64 0,.int .i64 0,.slice none 0 0,.slice none 0 0,.slice none 0 0,.int .i64 0,.slice none 0 0,.slice none 0 0,.slice none 0 0,.int .i64 0,.bool false,.bool false])) 20 (zq34 L1.1 L0.1) (ones_app Q1.1 (ones_app Q0.1 (zw rfl (zw rfl (zw rfl (zw rfl (zw rfl (zw rfl (zw rfl (zw rfl (zw rfl (zw rfl (zw rfl (zw rfl (zw rfl (zw rfl onesN))))))))))))))))
 refine tre_p (v:= .agg c0.toArray) (a':= ?_) rfl rfl (Or.inl ⟨zq19,run_build 58 _ rfl Z58 (fun w=>by kernel_rfl) _ Try.underlying58 #[(0,2),(2,4),(6,1),(7,11),(18,1),(19,1)] (fun w=>by kernel_rfl) [(0,.agg d1.toArray),(1,.agg d0.toArray)] (by first|rfl|(simp only [List.map_toArray,List.map_cons,List.map_nil];rfl)) c0 (zq18 E0.1 L1.1 L0.1)⟩) ?_ ?_;rotate_left;(· show Act.put _ (some _) _=_;simp only [Act.put,s_A,s_0,s_1,zxa];try rfl)
 refine tre_e rfl (zlb rfl zq19 58 _ _ rfl (w.heap.size+1) 0 c0 [] Z58 [] rfl rfl (E.1.box 3 rfl) zq14 (rfl) (by rw [L2.1];rfl) (zq30 L2.1) O0.1 (fun W15_ hp hn=> ?_))
 replace E:=E.1.put2 3 hp hn zq23;clear hp hn
 refine ⟨⟨(E.1.box 4 rfl),(E.1.box 1 rfl),trivial⟩,(fun hHeld=> ?_)⟩
 (refine tre_p (v:= ?_) (a':= ?_) rfl rfl (Or.inl ⟨zq19,zq5⟩) zq21 ?_)
 refine tre_done ?_
 clear hHeld
 go_wp2_with fail
 have BX:=zz (show _=some (Obj.cells (c0:List Value).toArray 58 (0,0)) from by first|exact (E.1.box 3 rfl)|simpa only [aA,aN,aL] using (E.1.box 3 rfl))
 refine bodyPost_ret (zza (rs:=[.cell 2 58,.tmp 3]) rfl zq29 (.cell (w.heap.size+1) 58 _ _ _ rfl BX.1 Try.underlying58 rfl (by rw [List.size_toArray,show (c0:List Value).length=20 from L2.1];kernel_rfl) (.tmp .nil))) rfl ?_
 exact ⟨_,rfl,(zq41 E0.1),E.1.below⟩
theorem specOpen_n (k:Nat) (l0:List ByteArray) (l1:List S135) (m:S53) {cs:List Value} (w:World) (h:kDisk.K w (l0,l1) cs) (hb:SpecBest k (l0,l1) m false):
  Calls Try.prog 23 #[.agg cs.toArray] w fun e w'=>∃ds:List Value,e= .returned (.tuple #[.agg ds.toArray,.bool false])∧kStore.M w' w.heap.size (Fr w w') (([],[]),(⟨0,0,0,[]⟩:S53),[],((⟨0,0,0,[]⟩:S53),([],[],0,[],[],[]),0),false,false) ds∧Below w.heap.size w w':=by
 have KS:=zz h;have Lcs:=zz (show cs.length=2 from Kd.K_len _ h);clear h
 have HB:=zz hb;clear hb
 have O:=zz (z2a w.heap.size)
 have E:=zz (Env.start w)
 go_enter Try.func23,Try.ntmps23
 go_wp2_with (first|((with_reducible refine zg (N:=7) rfl ?_);replace O:=zz (And.intro E.1.le O.1);replace E:=zz (E.1.alloc cs 32 (g:=w.heap.size) rfl);replace E:=zz (E.1.alloc Z58 58 (g:=(w.heap.size+1)) zq29);refine zl rfl 32 _ rfl w.heap.size 0 [] cs [] _ rfl (E.1.box 1 rfl) zq14 (rfl) Try.underlying32 rfl zq62 ?_))
 ((with_reducible refine (specBest_o k (l0,l1) m false _ (E.1.K KS.1) HB.1).mono ?_);rintro e w5 ⟨d0,rfl,M0,hb⟩)
 have q:=E.1.made4 O.1 4 rfl M0 hb;clear O E M0 hb;obtain ⟨n3_,m4_,L0,Q0,O,E⟩:=q
 go_wp2_with (first|((with_reducible refine zI (t:=53) (p:=4) rfl ?_);replace O:=zz (And.intro E.1.le O.1);replace E:=zz (E.1.alloc Z53 53 (g:=w5.heap.size) rfl);refine zK rfl 53 _ _ rfl rfl w5.heap.size 0 d0 [] Z53 [] rfl rfl (E.1.box 0 rfl) zq14 (rfl) (by rw [L0.1];rfl) (zq30 L0.1) Q0.1 ?_;intro W5_ hp hn;replace E:=E.1.put2 0 hp hn zq23;clear hp hn)|((with_reducible refine zI (t:=58) (p:=2) rfl ?_);refine zK rfl 58 _ _ rfl rfl (w.heap.size+1) 0 Z58 [] Z58 [] rfl rfl (E.1.box 2 rfl) zq14 (rfl) (rfl) zq8 (zw rfl (zw rfl (zw rfl (zw rfl (zw rfl (zw rfl (zw rfl (zw rfl (zw rfl (zw rfl (zw rfl (zw rfl (zw rfl (zw rfl (zw rfl (zw rfl (zw rfl (zw rfl (zw rfl (zw rfl onesN)))))))))))))))))))) ?_;intro W6_ hp hn;replace E:=E.1.put2 2 hp hn zq23;clear hp hn))
 have BX:=zz (show _=some (Obj.cells (Z58:List Value).toArray 58 (0,0)) from by first|exact (E.1.box 2 rfl)|simpa only [aA,aN,aL] using (E.1.box 2 rfl))
 refine bodyPost_ret (zza (rs:=[.cell 2 58,.tmp 3]) rfl zq29 (.cell (w.heap.size+1) 58 _ _ _ rfl BX.1 Try.underlying58 rfl zq8 (.tmp .nil))) rfl ?_
 exact ⟨_,rfl,(fresh (d:=kStore) zero_58 (z2a _)),E.1.below⟩
theorem specOpen_d (k:Nat) (l0:List ByteArray) (l1:List S135) (m:S53) {cs:List Value} (w:World) (h:kDisk.K w (l0,l1) cs) (hb:SpecBest k (l0,l1) m true) (hd:spec_DiskOk.f k l0 l1=some false):
  Calls Try.prog 23 #[.agg cs.toArray] w fun e w'=>∃ds:List Value,e= .returned (.tuple #[.agg ds.toArray,.bool false])∧kStore.M w' w.heap.size (Fr w w') (([],[]),(⟨0,0,0,[]⟩:S53),[],((⟨0,0,0,[]⟩:S53),([],[],0,[],[],[]),0),false,false) ds∧Below w.heap.size w w':=by
 have KS:=zz h;have Lcs:=zz (show cs.length=2 from Kd.K_len _ h);clear h
 have HB:=zz hb;clear hb
 have HD:=zz hd;clear hd
 have O:=zz (z2a w.heap.size)
 have E:=zz (Env.start w)
 go_enter Try.func23,Try.ntmps23
 go_wp2_with (first|((with_reducible refine zg (N:=7) rfl ?_);replace O:=zz (And.intro E.1.le O.1);replace E:=zz (E.1.alloc cs 32 (g:=w.heap.size) rfl);replace E:=zz (E.1.alloc Z58 58 (g:=(w.heap.size+1)) zq29);refine zl rfl 32 _ rfl w.heap.size 0 [] cs [] _ rfl (E.1.box 1 rfl) zq14 (rfl) Try.underlying32 rfl zq62 ?_))
 ((with_reducible refine (specBest_o k (l0,l1) m true _ (E.1.K KS.1) HB.1).mono ?_);rintro e w5 ⟨d0,rfl,M0,hb⟩)
 have q:=E.1.made4 O.1 4 rfl M0 hb;clear O E M0 hb;obtain ⟨n3_,m4_,L0,Q0,O,E⟩:=q
 go_wp2_with (first|((with_reducible refine zI (t:=53) (p:=4) rfl ?_);replace O:=zz (And.intro E.1.le O.1);replace E:=zz (E.1.alloc Z53 53 (g:=w5.heap.size) rfl);refine zK rfl 53 _ _ rfl rfl w5.heap.size 0 d0 [] Z53 [] rfl rfl (E.1.box 0 rfl) zq14 (rfl) (by rw [L0.1];rfl) (zq30 L0.1) Q0.1 ?_;intro W5_ hp hn;replace E:=E.1.put2 0 hp hn zq23;clear hp hn)|((with_reducible refine zg (N:=14) rfl ?_);refine zna zq19 32 _ rfl w.heap.size 0 [] cs [] _ rfl (E.1.box 3 rfl) zq14 (rfl) Try.underlying32 rfl zq62 ?_))
 ((with_reducible refine (specDiskOk_o k (l0,l1) false _ (E.1.K KS.1) HD.1).mono ?_);rintro e w6_ ⟨rfl,hb⟩)
 replace E:=zz (E.1.call hb);clear hb
 go_wp2_with (first|((with_reducible refine zI (t:=58) (p:=2) rfl ?_);refine zK rfl 58 _ _ rfl rfl (w.heap.size+1) 0 Z58 [] Z58 [] rfl rfl (E.1.box 2 rfl) zq14 (rfl) (rfl) zq8 (zw rfl (zw rfl (zw rfl (zw rfl (zw rfl (zw rfl (zw rfl (zw rfl (zw rfl (zw rfl (zw rfl (zw rfl (zw rfl (zw rfl (zw rfl (zw rfl (zw rfl (zw rfl (zw rfl (zw rfl onesN)))))))))))))))))))) ?_;intro W7_ hp hn;replace E:=E.1.put2 2 hp hn zq23;clear hp hn))
 have BX:=zz (show _=some (Obj.cells (Z58:List Value).toArray 58 (0,0)) from by first|exact (E.1.box 2 rfl)|simpa only [aA,aN,aL] using (E.1.box 2 rfl))
 refine bodyPost_ret (zza (rs:=[.cell 2 58,.tmp 3]) rfl zq29 (.cell (w.heap.size+1) 58 _ _ _ rfl BX.1 Try.underlying58 rfl zq8 (.tmp .nil))) rfl ?_
 exact ⟨_,rfl,(fresh (d:=kStore) zero_58 (z2a _)),E.1.below⟩
def specOpen_t_T4:Bool×List (List Nat×List Nat):=(true,[([],[]),([0],[0]),([],[]),([1,2],[1,2]),([3,1,0,1,2,3],[3]),([4,0,1,2,3,4],[])])
def specOpen_t_B4:List Nat:=[0,1,0,7,15,31]
theorem specOpen_t_ok4_0:regT (zgb Try.f23 4) specOpen_t_T4 specOpen_t_B4 [] (.t 0 (.t 2 (.e 1 (.p 3 (.e 4 (.p 5 .d))))))=true:=zq8
theorem specOpen_t (k:Nat) (l0:List ByteArray) (l1:List S135) (m:S53) {cs:List Value} (w:World) (h:kDisk.K w (l0,l1) cs) (hb:SpecBest k (l0,l1) m true) (hd:spec_DiskOk.f k l0 l1=some true) (hl:l0.length≤2000000∧l1.length≤2000000):
  Calls Try.prog 23 #[.agg cs.toArray] w fun e w'=>∃ds:List Value,e= .returned (.tuple #[.agg ds.toArray,.bool true])∧kStore.M w' w.heap.size (Fr w w') ((l0,l1),m,[],((⟨0,0,0,[]⟩:S53),([],[],0,[],[],[]),0),false,false) ds∧Below w.heap.size w w':=by
 have KS:=zz h;have Lcs:=zz (show cs.length=2 from Kd.K_len _ h);clear h
 have HB:=zz hb;clear hb
 have HD:=zz hd;clear hd
 have FL:=zz hl;clear hl
 have O:=zz (z2a w.heap.size)
 have E:=zz (Env.start w)
 go_enter Try.func23,Try.ntmps23
 go_wp2_with (first|((with_reducible refine zg (N:=7) rfl ?_);replace O:=zz (And.intro E.1.le O.1);replace E:=zz (E.1.alloc cs 32 (g:=w.heap.size) rfl);replace E:=zz (E.1.alloc Z58 58 (g:=(w.heap.size+1)) zq29);refine zl rfl 32 _ rfl w.heap.size 0 [] cs [] _ rfl (E.1.box 1 rfl) zq14 (rfl) Try.underlying32 rfl zq62 ?_))
 ((with_reducible refine (specBest_o k (l0,l1) m true _ (E.1.K KS.1) HB.1).mono ?_);rintro e w5 ⟨d0,rfl,M0,hb⟩)
 have q:=E.1.made4 O.1 4 rfl M0 hb;clear O E M0 hb;obtain ⟨n3_,m4_,L0,Q0,O,E⟩:=q
 go_wp2_with (first|((with_reducible refine zI (t:=53) (p:=4) rfl ?_);replace O:=zz (And.intro E.1.le O.1);replace E:=zz (E.1.alloc Z53 53 (g:=w5.heap.size) rfl);refine zK rfl 53 _ _ rfl rfl w5.heap.size 0 d0 [] Z53 [] rfl rfl (E.1.box 0 rfl) zq14 (rfl) (by rw [L0.1];rfl) (zq30 L0.1) Q0.1 ?_;intro W5_ hp hn;replace E:=E.1.put2 0 hp hn zq23;clear hp hn)|((with_reducible refine zg (N:=14) rfl ?_);refine zna zq19 32 _ rfl w.heap.size 0 [] cs [] _ rfl (E.1.box 3 rfl) zq14 (rfl) Try.underlying32 rfl zq62 ?_))
 ((with_reducible refine (specDiskOk_o k (l0,l1) true _ (E.1.K KS.1) HD.1).mono ?_);rintro e w6_ ⟨rfl,hb⟩)
 replace E:=zz (E.1.call hb);clear hb
 go_upto_region 4 with (fail)
 replace E:=zz E.1.drew
 refine tre_start specOpen_t_ok4_0 (S:=fun w'=>w'.heap[w.heap.size]?=some (.cells (cs:List Value).toArray 32 (0,0))∧w'.heap[w5.heap.size]?=some (.cells (([]++(d0++[])):List Value).toArray 53 (0,0))∧True) zq8 (fun _ _ _ _ h=>h) ⟨(E.1.box 3 rfl),(E.1.box 0 rfl),trivial⟩ (fun hHeld=> ?_)
 generalize hq:World.drew _=w7_ at hHeld ⊢;replace E:=E.1.to hq;clear hq
 refine zBa (a':= ?_) rfl rfl zq19 32 _ rfl w.heap.size 0 [] cs [] _ rfl (fun w' hs=>hs.1) zq14 (rfl) Try.underlying32 rfl zq62 zq21 ?_
 refine zBa (a':= ?_) rfl rfl zq19 53 _ rfl w5.heap.size 0 [] d0 [] _ rfl (fun w' hs=>hs.2.1) zq14 (rfl) Try.underlying53 rfl (zq30 L0.1) zq21 ?_
 refine tre_e rfl (ev1_call rfl Try.func65 zq8 rfl #[.agg cs.toArray] zq19 rfl zq20 ?_)
 with_reducible refine (l03Copy_n l0 l1 _ (E.1.K KS.1) FL.1).mono ?_
 rintro e w10_ ⟨d1,rfl,M1,hb⟩
 have q:=E.1.made4 O.1 2 rfl M1 hb;clear O E M1 hb;obtain ⟨n12_,m13_,L1,Q1,O,E⟩:=q
 refine ⟨_,rfl,⟨(E.1.box 4 rfl),(E.1.box 1 rfl),trivial⟩,(fun hHeld=> ?_)⟩
 refine zWa (a':= ?_) zq21 ?_
 obtain ⟨c0,E0,L2,O0⟩:=lump_ (d1++(d0++[.slice none 0 0,.int .i64 0,.int .i64 0,.int .i64 0,.slice none 0 0,.slice none 0 0,.slice none 0 0,.int .i64 0,.slice none 0 0,.slice none 0 0,.slice none 0 0,.int .i64 0,.bool false,.bool false])) 20 (zq34 L1.1 L0.1) (ones_app Q1.1 (ones_app Q0.1 (zw rfl (zw rfl (zw rfl (zw rfl (zw rfl (zw rfl (zw rfl (zw rfl (zw rfl (zw rfl (zw rfl (zw rfl (zw rfl (zw rfl onesN))))))))))))))))
 refine tre_p (v:= .agg c0.toArray) (a':= ?_) rfl rfl (Or.inl ⟨zq19,run_build 58 _ rfl Z58 (fun w=>by kernel_rfl) _ Try.underlying58 #[(0,2),(2,4),(6,1),(7,11),(18,1),(19,1)] (fun w=>by kernel_rfl) [(0,.agg d1.toArray),(1,.agg d0.toArray)] (by first|rfl|(simp only [List.map_toArray,List.map_cons,List.map_nil];rfl)) c0 (zq18 E0.1 L1.1 L0.1)⟩) ?_ ?_;rotate_left;(· show Act.put _ (some _) _=_;simp only [Act.put,s_A,s_0,s_1,zxa];try rfl)
 refine tre_e rfl (zlb rfl zq19 58 _ _ rfl (w.heap.size+1) 0 c0 [] Z58 [] rfl rfl (E.1.box 3 rfl) zq14 (rfl) (by rw [L2.1];rfl) (zq30 L2.1) O0.1 (fun W15_ hp hn=> ?_))
 replace E:=E.1.put2 3 hp hn zq23;clear hp hn
 refine ⟨⟨(E.1.box 4 rfl),(E.1.box 1 rfl),trivial⟩,(fun hHeld=> ?_)⟩
 (refine tre_p (v:= ?_) (a':= ?_) rfl rfl (Or.inl ⟨zq19,zq5⟩) zq21 ?_)
 refine tre_done ?_
 clear hHeld
 go_wp2_with fail
 have BX:=zz (show _=some (Obj.cells (c0:List Value).toArray 58 (0,0)) from by first|exact (E.1.box 3 rfl)|simpa only [aA,aN,aL] using (E.1.box 3 rfl))
 refine bodyPost_ret (zza (rs:=[.cell 2 58,.tmp 3]) rfl zq29 (.cell (w.heap.size+1) 58 _ _ _ rfl BX.1 Try.underlying58 rfl (by rw [List.size_toArray,show (c0:List Value).length=20 from L2.1];kernel_rfl) (.tmp .nil))) rfl ?_
 exact ⟨_,rfl,(zq41 E0.1),E.1.below⟩
end Go.Proofs.Ytonhdiemjgdcnaa.PFnExactGivePage
