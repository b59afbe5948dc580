import Derived.Test.YtonhdiemjgdcnaaGreatCC6
import Derived.Lib.Bytes
import Derived.Lib.Strings
import Derived.Laws.Bits128
import Derived.Laws.BitsAllLaws
set_option maxHeartbeats 64000000
set_option maxRecDepth 100000
set_option linter.unusedVariables false
set_option linter.unusedSimpArgs false
namespace Go.Proofs.YtonhdiemjgdcnaaGreat.PFnExactGivePage
open Go.RowKit Go.Proofs.YtonhdiemjgdcnaaGreatW.PrintWords Go.Proofs.YtonhdiemjgdcnaaGreatW.PrintLast Go.Proofs.YtonhdiemjgdcnaaGreatW.PrintMore
attribute [local go_sem] zba zga zoa zna zW zV zfa zea
theorem eqI_ev1 (l:List Int) (h:l.length≤1048576):Ev (fun k=>laws_eqIntS.f k l l) true:=eqI_ev l zq5
theorem rd_T140_nat (xs:List S140) (k:Nat) (hk:k<xs.length):zpa xs (k:Int)=xs[k]:=by
 simp [zpa,List.getD_eq_getElem?_getD,List.getElem?_eq_getElem hk]
def sumF (l:List S140):Nat:=((l.map S140.f1).flatten).length
theorem sumF_cons (x:S140) (l:List S140):sumF (x::l)=x.f1.length+sumF l:=by simp [sumF]
theorem szF_go (l:List S140) (hs:∀s∈l,s.f1.length≤9223372036854775807) (hl:l.length≤9223372036854775807):∀(n i:Nat) (x:Int),i+n=l.length→0≤x→x≤1048576→∃r,laws_szFreeS.l0 (n+1) l x (i:Int)=some r∧(r<0∨(0≤r∧r≤x∧(sumF (l.drop i):Int)≤x)):=by
 intro n
 induction n with
 |zero=>
  intro i x hi h0 h1
  refine ⟨x,?_,.inr ⟨h0,Int.le_refl _,by rw [List.drop_eq_nil_of_le zq5];simpa [sumF] using h0⟩⟩
  rw [laws_szFreeS.l0,if_neg zq5]
 |succ n ih=>
  intro i x hi h0 h1
  have hlt:i<l.length:=by omega
  have hsz:=hs l[i] (List.getElem_mem hlt)
  have hdr:sumF (l.drop i)=l[i].f1.length+sumF (l.drop (i+1)):=by rw [List.drop_eq_getElem_cons hlt,sumF_cons]
  rw [laws_szFreeS.l0,if_pos zq5,if_pos zq5,rd_T140_nat _ _ hlt,laws_szFree.f,laws_szIntS.f,zM (x:=x-_) zq5 zq5,zM (x:=(i:Int)+1) zq5 zq5]
  by_cases hneg:x-(l[i].f1.length:Int)<0
  ·rw [if_pos hneg,Option.bind_some,if_pos zq5,Option.bind_some,if_pos zq5]
   exact ⟨-1,rfl,.inl zq5⟩
  ·rw [if_neg hneg,Option.bind_some,if_neg hneg,Option.bind_some,if_neg hneg]
   obtain ⟨r,h2,h3⟩:=ih (i+1) (x-(l[i].f1.length:Int)) zq5 zq5 zq5
   refine ⟨r,by rw [show (i:Int)+1=((i+1:Nat):Int) by omega];exact h2,?_⟩
   rcases h3 with h3|⟨h4,h5,h6⟩
   ·exact .inl h3
   ·exact .inr ⟨h4,by omega,by rw [hdr];omega⟩
theorem szM_ev (m0 m1 m2:Int) (l:List S140) (hs:∀s∈l,s.f1.length≤9223372036854775807) (hl:l.length≤9223372036854775807) (x:Int) (h0:0≤x) (h1:x≤1048576):∃r,Ev (fun k=>laws_szMeta.f k m0 m1 m2 l x) r∧(r<0∨(¬r<0∧r≤x∧l.length≤1048576∧sumF l≤1048576)):=by
 by_cases hneg:x-(l.length:Int)<0
 ·refine ⟨-1,Ev.of (k:=0) (fun k=>laws_szMeta.mono _ _ _ _ _ k) ?_,.inl zq5⟩
  unfold laws_szMeta.f laws_szFreeS.f
  rw [zM zq5 zq5,if_pos hneg,Option.bind_some,if_pos zq5]
 ·obtain ⟨r,h2,h3⟩:=szF_go l hs hl l.length 0 (x-(l.length:Int)) zq5 zq5 zq5
  have hev:∀r',(laws_szFreeS.l0 (l.length+1) l (x-(l.length:Int)) 0=some r)→(if r<0 then-1 else r)=r'→Ev (fun k=>laws_szMeta.f k m0 m1 m2 l x) r':=fun r' h e=>by
   refine Ev.of (k:=l.length+1) (fun k=>laws_szMeta.mono _ _ _ _ _ k) ?_
   unfold laws_szMeta.f laws_szFreeS.f
   rw [zM zq5 zq5,if_neg hneg,h,Option.bind_some,←e]
   split<;>rfl
  rcases h3 with h3|⟨h4,h5,h6⟩
  ·exact ⟨-1,hev _ h2 (if_pos h3),.inl zq5⟩
  ·refine ⟨r,hev _ h2 (if_neg zq5),.inr ⟨by omega,by omega,by omega,?_⟩⟩
   rw [List.drop_zero] at h6
   omega
theorem sumF_mem (l:List S140) (s:S140) (h:s∈l):s.f1.length≤sumF l:=by
 induction l with
 |nil=>cases h
 |cons x l ih=>
  rw [sumF_cons]
  rcases List.mem_cons.1 h with rfl|h
  ·omega
  ·have:=ih h;omega
def convF (x:S140):S112:=⟨x.f0,x.f1⟩
theorem toF_go (l:List S140) (hl:l.length≤1048576) (hs:∀s∈l,s.f1.length≤1048576):∀(n i:Nat),i+n=l.length→Ev (fun k=>laws_toFreeS.l0 k l ((l.map convF).take i++List.replicate n z112) (i:Int)) (l.map convF):=by
 intro n
 induction n with
 |zero=>
  intro i hi
  refine Ev.step (f:=fun _=>some (l.map convF)) (fun k=> ?_) (Ev.now _)
  rw [laws_toFreeS.l0,if_neg zq5,List.replicate_zero,List.append_nil,List.take_of_length_le (by rw [List.length_map];omega)]
 |succ n ih=>
  intro i hi
  have hlt:i<l.length:=by omega
  have hlt':i<(l.map convF).length:=by rw [List.length_map];exact hlt
  have hti:((l.map convF).take i).length=i:=by rw [List.length_take,List.length_map];omega
  refine Ev.step (f:=fun k=>(laws_toIntS.f k l[i].f1).bind fun t=>laws_toFreeS.l0 k l (((l.map convF).take i++z112::List.replicate n z112).set i ⟨l[i].f0,t⟩) ((i+1:Nat):Int)) (fun k=> ?_) (Ev.bind (toI_ev _ (hs _ (List.getElem_mem hlt))) ?_)
  ·rw [laws_toFreeS.l0,if_pos zq5,if_pos zq5,rd_T140_nat _ _ hlt,laws_toFree.f,zM zq5 zq5,Int.toNat_natCast,List.replicate_succ]
   cases laws_toIntS.f k l[i].f1 with
   |none=>rfl
   |some t=>
    simp only [Option.bind_some]
    rw [if_pos zq51]
    rfl
  ·have:=set_front ((l.map convF).take i) (List.replicate n z112) z112 (convF l[i])
   rw [hti] at this
   show Ev (fun k=>laws_toFreeS.l0 k l (((l.map convF).take i++z112::List.replicate n z112).set i (convF l[i])) _) _
   rw [this,show convF l[i]=(l.map convF)[i] by rw [List.getElem_map],List.take_append_getElem hlt']
   exact ih (i+1) zq5
theorem toM_ev (m0 m1 m2:Int) (l:List S140) (hl:l.length≤1048576) (hs:∀s∈l,s.f1.length≤1048576):Ev (fun k=>laws_toMeta.f k m0 m1 m2 l) (m0,m1,m2,l.map convF):=by
 refine Ev.bind (a:=l.map convF) ?_ (Ev.now _)
 have h:=toF_go l hl hs l.length 0 zq5
 refine Ev.congr (f:=fun k=>laws_toFreeS.l0 k l ((l.map convF).take 0++List.replicate l.length z112) 0) (fun k=> ?_) h
 unfold laws_toFreeS.f
 rw [if_pos zq5,if_pos zq59,Int.toNat_natCast,List.take_zero,List.nil_append]
theorem rd_T112_nat (xs:List S112) (k:Nat) (hk:k<xs.length):zS xs (k:Int)=xs[k]:=by
 simp [zS,List.getD_eq_getElem?_getD,List.getElem?_eq_getElem hk]
theorem eqF_go (l:List S112) (hl:l.length≤1048576) (hs:∀s∈l,s.f1.length≤1048576):∀(n i:Nat),i+n=l.length→Ev (fun k=>laws_eqFreeS.l0 k l l (i:Int)) true:=by
 intro n
 induction n with
 |zero=>
  intro i hi
  exact Ev.step (f:=fun _=>some true) (fun k=>by rw [laws_eqFreeS.l0,if_neg zq5]) (Ev.now _)
 |succ n ih=>
  intro i hi
  have hlt:i<l.length:=by omega
  refine Ev.step (f:=fun k=>(laws_eqIntS.f k l[i].f1 l[i].f1).bind fun t=>if t=true then laws_eqFreeS.l0 k l l ((i+1:Nat):Int) else none) (fun k=> ?_) (Ev.bind (eqI_ev1 _ (hs _ (List.getElem_mem hlt))) ?_)
  ·rw [laws_eqFreeS.l0,if_pos zq5,if_pos zq5,if_pos zq5,rd_T112_nat _ _ hlt,laws_eqFree.f,if_pos rfl,zM zq5 zq5]
   cases laws_eqIntS.f k l[i].f1 l[i].f1 with
   |none=>rfl
   |some t=>cases t<;>rfl
  ·simp only [if_true]
   exact ih (i+1) zq5
theorem eqM_ev (m0 m1 m2:Int) (l:List S112) (hl:l.length≤1048576) (hs:∀s∈l,s.f1.length≤1048576):Ev (fun k=>laws_eqMeta.f k m0 m1 m2 l m0 m1 m2 l) true:=by
 have h:=eqF_go l hl hs l.length 0 zq5
 refine Ev.congr (f:=fun k=>(laws_eqFreeS.l0 k l l 0).bind fun t=>if t=true then some true else none) (fun k=> ?_) (Ev.bind h (Ev.now _))
 unfold laws_eqMeta.f laws_eqFreeS.f
 rw [if_pos rfl,if_pos rfl,if_pos rfl,if_pos rfl]
def OKm (l:List S140):Prop:=l.length≤1048576∧∀s∈l,s.f1.length≤1048576
def INm (l:List S140):Prop:=(∀s∈l,s.f1.length≤9223372036854775807)∧l.length≤9223372036854775807
theorem szMx (m0 m1 m2:Int) (l:List S140) (h:INm l) (x:Int) (h0:0≤x) (hx:x≤1048576):∃r,Ev (fun k=>laws_szMeta.f k m0 m1 m2 l x) r∧(r<0∨(0≤r∧r≤x∧OKm l)):=by
 obtain ⟨r,e,hr⟩:=szM_ev m0 m1 m2 l h.1 h.2 x h0 hx
 refine ⟨r,e,?_⟩
 rcases hr with hr|⟨a,b,c,d⟩
 ·exact .inl hr
 ·exact .inr ⟨by omega,b,c,fun s hs=>Nat.le_trans (sumF_mem l s hs) d⟩
def OKn (l:List S112):Prop:=l.length≤1048576∧∀s∈l,s.f1.length≤1048576
theorem OKn_conv {l:List S140} (h:OKm l):OKn (l.map convF):=⟨by rw [List.length_map];exact h.1,fun s hs=>by obtain ⟨y,hy,rfl⟩:=List.mem_map.1 hs;exact h.2 y hy⟩
theorem szTx (a b c:Int) (fr:List S140) (pages:List ByteArray) (late:List S156) (n:Int) (u g f:List Int) (q:Int) (hm:INm fr) (hd:INd pages late) (hu:INi u) (hg:INi g) (hf:INi f) (x:Int) (h0:0≤x) (hx:x≤1048576):∃r,Ev (fun k=>laws_szTxn.f k a b c fr pages late n u g f q x) r∧(r<0∨(0≤r∧r≤x∧OKm fr∧Small pages late∧u.length≤1048576∧g.length≤1048576∧f.length≤1048576)):=by
 unfold laws_szTxn.f
 exact sz_step (szMx a b c fr hm x h0 hx) fun y y0 y1=>sz_end (szWx pages late n u g f hd hu hg hf y y0 zq5)
theorem mhF:∀(n i:Nat) (l:List S112) (a:Int),i+n=l.length→0<a→a+n*1048577<4000000000000000000→l.length≤2000000→(∀j (h:j<l.length),i≤j→l[j].f1.length≤1048576)→∃l' c,0≤c∧c≤(n:Int)*1048577∧Ev (fun k=>markF.l0 k l a (i:Int)) (a+c,l')∧l'.length=l.length∧(∀j,j<i→l'[j]?=l[j]?)∧Ev (fun k=>laws_heldFreeS.l0 k l' a (i:Int)) (a+c):=by
 intro n
 induction n with
 |zero=>
  intro i l a hi h0 h1 hl hs
  refine ⟨l,0,by omega,by omega,Ev.step (f:=fun _=>some (a+0,l)) (fun k=> ?_) (Ev.now _),rfl,fun _ _=>rfl,Ev.step (f:=fun _=>some (a+0)) (fun k=> ?_) (Ev.now _)⟩
  ·rw [markF.l0,if_neg zq5]
   simp
  ·rw [laws_heldFreeS.l0,if_neg zq5]
   simp
 |succ n ih=>
  intro i l a hi h0 h1 hl hs
  have hlt0:i<l.length:=by omega
  have hsi:=hs i hlt0 (Nat.le_refl _)
  obtain ⟨p,g1,g2⟩:=mhI_ev l[i].f1 (a+1) zq5 zq5 zq5
  obtain ⟨l',c,c0,c1,e1,e2,e3,e4⟩:=ih (i+1) (l.set i (⟨a,p⟩:S112)) (a+1+l[i].f1.length) zq54 zq5 zq5 (by rw [List.length_set];exact hl) (fun j h hj=>by
   rw [List.length_set] at h
   rw [List.getElem_set_ne zq5]
   exact hs j h zq5)
  rw [List.length_set] at e2
  have hlt:i<l'.length:=by omega
  have hat:l'[i]?=some (⟨a,p⟩:S112):=by rw [e3 i (Nat.lt_succ_self i),List.getElem?_set_self zq5]
  have hget:l'[i]=(⟨a,p⟩:S112):=by rw [List.getElem?_eq_getElem hlt] at hat;exact Option.some.inj hat
  have hn:a+1+(l[i].f1.length:Int)+c=a+(1+(l[i].f1.length:Int)+c):=by omega
  rw [hn] at e1 e4
  refine ⟨l',1+(l[i].f1.length:Int)+c,by omega,by omega,Ev.step (f:=fun k=>(laws_markIntS.f k l[i].f1 (a+1)).bind fun b=>markF.l0 k (l.set i (⟨a,b.2⟩:S112)) b.1 ((i+1:Nat):Int)) (fun k=> ?_) (Ev.bind g1 e1),e2,fun j hj=> ?_,Ev.step (f:=fun k=>(laws_heldIntS.f k p (a+1)).bind fun t=>if t<0 then none else laws_heldFreeS.l0 k l' t ((i+1:Nat):Int)) (fun k=> ?_) (Ev.bind g2 (by simp only [if_neg (show ¬a+1+(l[i].f1.length:Int)<0 by omega)];exact e4))⟩
  ·rw [markF.l0,if_pos zq5,if_pos zq5,rd_T112_nat _ _ hlt0,zM (x:=a+1) zq5 zq5,zM (x:=(i:Int)+1) zq5 zq5,Int.toNat_natCast]
   rfl
  ·rw [e3 j zq5,List.getElem?_set_ne zq5]
  ·rw [laws_heldFreeS.l0,if_pos zq5,if_pos zq5,rd_T112_nat _ _ hlt,hget,if_pos rfl,zM (x:=a+1) zq5 zq5,zM (x:=(i:Int)+1) zq5 zq5]
   rfl
theorem mhF_ev (l:List S112) (a:Int) (h0:0<a) (h1:a+l.length*1048577<4000000000000000000) (hl:OKn l):∃l' c,0≤c∧c≤(l.length:Int)*1048577∧Ev (fun k=>markF.l0 k l a 0) (a+c,l')∧Ev (fun k=>laws_heldFreeS.f k l' a) (a+c):=by
 obtain ⟨l',c,c0,c1,e1,_,_,e4⟩:=mhF l.length 0 l a zq5 h0 h1 (by have:=hl.1;omega) (fun j h _=>hl.2 _ (List.getElem_mem h))
 exact ⟨l',c,c0,c1,e1,e4⟩
def EvP (P:Nat→Prop):Prop:=∃K,∀k,K≤k→P k
theorem EvP.and {P Q:Nat→Prop} (h:EvP P) (h2:EvP Q):EvP (fun k=>P k∧Q k):=by
 obtain ⟨K,h⟩:=h
 obtain ⟨J,h2⟩:=h2
 exact ⟨K+J,fun k hk=>⟨h k zq5,h2 k zq5⟩⟩
theorem EvP.now {P:Prop} (h:P):EvP (fun _=>P):=⟨0,fun _ _=>h⟩
theorem EvP.imp {P Q:Nat→Prop} (h:EvP P) (hi:∀k,P k→Q k):EvP Q:=by
 obtain ⟨K,h⟩:=h
 exact ⟨K,fun k hk=>hi k (h k hk)⟩
theorem EvP.of {α:Type} {f:Nat→Option α} {r:α} (h:Ev f r):EvP (fun k=>f k=some r):=h
def convM (x:S24):S40:=⟨x.f0,x.f1,x.f2,x.f3.map convF⟩
def MHead (x:S40):Prop:=(0≤x.f0∧x.f0≤100000)∧(2≤x.f2∧x.f2≤40)∧(x.f1=0∨(2≤x.f1∧x.f1≤x.f2-1))∧x.f3.length≤20
def FrHead (x:S40) (i:Nat) (f:S112):Prop:=(1≤f.f0∧f.f0≤x.f0)∧(∀g:S112,0<i→x.f3[i-1]?=some g→g.f0<f.f0)∧(1≤f.f1.length∧f.f1.length≤40)
def PgOk (x:S40) (seen ps:List Int) (k:Nat) (p:Int):Prop:=(2≤p∧p≤x.f2-1)∧(∀q:Int,0<k→ps[k-1]?=some q→q<p)∧p∉seen++ps.take k
def zja (x:S40) (i:Nat):List Int:=x.f1::(x.f3.take i).flatMap (·.f1)
def FrPages (x:S40) (i:Nat) (f:S112):Prop:=∀k p,f.f1[k]?=some p→PgOk x (zja x i) f.f1 k p
def MOk (x:S40):Prop:=MHead x∧∀i f,x.f3[i]?=some f→FrHead x i f∧FrPages x i f
theorem seen_succ {x:S40} {i:Nat} {f:S112} (h:x.f3[i]?=some f):zja x (i+1)=zja x i++f.f1:=by
 obtain ⟨hi,rfl⟩:=List.getElem?_eq_some_iff.1 h
 show x.f1::(x.f3.take (i+1)).flatMap (·.f1)=(x.f1::(x.f3.take i).flatMap (·.f1))++x.f3[i].f1
 rw [List.take_succ_eq_append_getElem hi,List.flatMap_append]
 show _::(_++(x.f3[i].f1++[]))=_::(_++_)
 rw [List.append_nil]
def inB (a lo hi:Int):Bool:=decide (lo≤a)&&decide (a≤hi)
theorem zVa {a lo hi:Int} (h:lo≤a∧a≤hi):inB a lo hi=true:=by simp [inB,h.1,h.2]
theorem inB_f {a lo hi:Int} (h:¬(lo≤a∧a≤hi)):inB a lo hi=false:=by
 simp only [inB,Bool.and_eq_false_iff,decide_eq_false_iff_not]
 omega
theorem inB_at {a lo hi:Int} (h:lo≤a):decide (a≤hi)=inB a lo hi:=by simp [inB,h]
theorem inB_af {a lo hi:Int} (h:¬lo≤a):false=inB a lo hi:=by simp only [inB,h,decide_false,Bool.false_and]
theorem rb {a b:Bool} (h:a=b):Ending.returned (.bool a)= .returned (.bool b):=by rw [h]
def hasB (l:List Int) (x:Int):Bool:=decide (x∈l)
theorem inS (a lo hi:Int) (w:World):Calls Tryz.prog 77 #[.int .i64 a,.int .i64 lo,.int .i64 hi] w fun e w'=>e= .returned (.bool (inB a lo hi))∧w=w':=by
 by_cases h:lo≤a
 ·go_enter Tryz.func77,Tryz.ntmps77
  go_wp2
  go_ret
  exact ⟨rb (inB_at h),rfl⟩
 ·go_enter Tryz.func77,Tryz.ntmps77
  go_wp2
  go_ret
  exact ⟨rb (inB_af zq5),rfl⟩
theorem inI (a lo hi:Int) (w:World):Calls Tryz.prog 118 #[.int .i64 a,.int .i64 lo,.int .i64 hi] w fun e w'=>e= .returned (.bool (inB a lo hi))∧w=w':=by
 by_cases h:lo≤a
 ·go_enter Tryz.func118,Tryz.ntmps118
  go_wp2
  go_ret
  exact ⟨rb (inB_at h),rfl⟩
 ·go_enter Tryz.func118,Tryz.ntmps118
  go_wp2
  go_ret
  exact ⟨rb (inB_af zq5),rfl⟩
theorem C_at {w:World} {A:Option Addr} {n:Nat} {xs:List Int} (h:Kd.C (Kd.int .i64) w A n xs) {i:Nat} (hi:i<xs.length):∃ad,A=some ad∧w.cell? (ad.add i)=some (.int .i64 xs[i]):=by
 obtain ⟨ad,v,cs,e,hk,hc,-⟩:=elem_at h hi zq14
 refine ⟨ad,e,?_⟩
 have:v::cs=[.int .i64 xs[i]]:=hk
 injection this with h1 h2
 rw [←h1]
 rw [show i*(Kd.int .i64).sz=i from Nat.mul_one i] at hc
 exact hc
theorem hasS (xs:List Int) (x:Int) (A:Option Addr) (c:Nat) (w:World) (h:Kd.C (Kd.int .i64) w A xs.length xs) (hl:xs.length≤2000000):Calls Tryz.prog 78 #[.slice A xs.length c,.int .i64 x] w fun e w'=>e= .returned (.bool (hasB xs x))∧w=w':=by
 have H:=zz h
 clear h
 go_enter Tryz.func78,Tryz.ntmps78
 go_wp2
 go_loop [5] (fun v5=>∃i:Nat,v5= .int .i64 (i:Int)∧i≤xs.length∧Z0 (x∉xs.take i)) (fun v5=>xs.length-(intOf v5).toNat)
 case atStart=>exact ⟨0,rfl,Nat.zero_le _,⟨by simp⟩⟩
 case round=>
  obtain ⟨i,rfl,hi,HN⟩:=hrel
  by_cases hlt:i<xs.length
  ·obtain ⟨ad,hA,hc⟩:=C_at H.out hlt
   subst hA
   have c3:((0:Int)≤(i:Int))=True:=eq_true zq5
   have c2:((i:Int)<(xs.length:Int))=True:=eq_true zq5
   obtain ⟨y,hy⟩:∃y,y=xs[i]:=⟨_,rfl⟩
   rw [←hy] at hc
   have HY:=zz hy
   clear hy
   by_cases e:y=x
   ·subst e
    have e1:(y==y)=true:=beq_self_eq_true y
    go_wp2
    go_ret
    exact ⟨rb (show true=hasB xs y from (decide_eq_true (by rw [HY.out];exact List.getElem_mem hlt)).symm),rfl⟩
   ·have e1:(y==x)=false:=beq_eq_false_iff_ne.2 e
    have HE:=zz e
    clear e
    go_wp2
    go_round
    case rel=>exact ⟨i+1,by go_num,by omega,⟨by
     rw [List.take_succ_eq_append_getElem hlt,←HY.out]
     simp only [List.mem_append,List.mem_singleton,not_or]
     exact ⟨HN.out,fun h=>HE.out h.symm⟩⟩⟩
    case measure=>simp [intOf];omega
  ·have:i=xs.length:=by omega
   subst this
   go_wp2
   go_ret
   exact ⟨rb (show false=hasB xs x from (decide_eq_false (by have:=HN.out;rwa [List.take_length] at this)).symm),rfl⟩
theorem inSq (a lo hi:Int) (w:World) (n:Nat):Calls Tryz.prog 77 #[.int .i64 a,.int .i64 lo,.int .i64 hi] (w.drewN n) fun e w''=>e= .returned (.bool (inB a lo hi))∧∃m,w''=w.drewN m:=(inS a lo hi _).mono fun _ _ h=>⟨h.1,n,h.2.symm⟩
theorem hasSq (xs:List Int) (x:Int) (A:Option Addr) (c:Nat) (w:World) (n:Nat) (h:Kd.C (Kd.int .i64) w A xs.length xs) (hl:xs.length≤2000000):Calls Tryz.prog 78 #[.slice A xs.length c,.int .i64 x] (w.drewN n) fun e w''=>e= .returned (.bool (hasB xs x))∧∃m,w''=w.drewN m:=(hasS xs x A c _ (Kd.C_drewN h n) hl).mono fun _ _ h=>⟨h.1,n,h.2.symm⟩
structure SeenAt (w w':World) (cs:List Value) (seen:List Int) (v:Value):Prop where
 row:Kd.R (Kd.int .i64) 3 w' w.heap.size (fun k=>w.heap.size<k) v seen
 box:w'.heap[w.heap.size]?=some (.cells cs.toArray 40 (0,0))
 bel:Below w.heap.size w w'
theorem SeenAt.step {w w' w2:World} {cs:List Value} {seen:List Int} {v:Value} (h:SeenAt w w' cs seen v) (hb:Below w'.heap.size w' w2):SeenAt w w2 cs seen v:=⟨Kd.R_below h.row hb,zu h.box hb,zk h.bel hb⟩
theorem R_one (n:Int) (base:Nat) (w:World) (ok:Nat→Prop) (hb:base≤w.heap.size) (hok:ok w.heap.size):Kd.R (Kd.int .i64) 3 (w.alloc (.cells #[.int .i64 n] 3)) base ok (.slice (some ⟨w.heap.size,0,none⟩) 1 1) [n]:=
 ⟨fun k hk=>by simp [Value.ownBlock] at hk;rw [←hk];exact hok,[.int .i64 n],⟨rfl,.inr ⟨w.heap.size,1,#[.int .i64 n],rfl,hb,heap_alloc_new w _,Nat.le_refl _,by decide,rfl,rfl⟩⟩,Reps.one (rfl:(Kd.int .i64).M _ base _ n [.int .i64 n]) (Reps.none _ _)⟩
theorem seen0 (x:S40) (cs:List Value) (w:World):SeenAt w ((w.alloc (.cells cs.toArray 40)).alloc (.cells #[.int .i64 x.f1] 3)) cs (zja x 0) (.slice (some ⟨w.heap.size+1,0,none⟩) 1 1):=by
 refine ⟨?_,zh (zka w _) _,zg (zg (Below.refl _ _) _) _⟩
 have h:=R_one x.f1 w.heap.size (w.alloc (.cells cs.toArray 40)) (fun k=>w.heap.size<k) zq15 zq15
 rwa [show (w.alloc (.cells cs.toArray 40)).heap.size=w.heap.size+1 by simp] at h
theorem zR (w:World) (n:Nat):Below w.heap.size w (w.drewN n):=zf (Below.refl _ _) n
theorem zo {w w2:World} {a:Addr} {v:Value} (h:w.cell? a=some v) (hb:Below w.heap.size w w2):w2.cell? a=some v:=(hb.cell (World.block_lt_of_cell? w _ h)).trans h
theorem bfalse {b:Bool} {p:Prop} (h:b=true↔p) (hn:¬p):false=b:=by
 cases b
 ·rfl
 ·exact absurd (h.1 rfl) hn
theorem fr_ways (x:S40) (i:Nat) (f:S112) (b:Bool) (hb:b=true↔MOk x) (hi:x.f3[i]?=some f):
  (false=b∧((inB f.f0 1 x.f0=false)∨(inB f.f0 1 x.f0=true∧i=0∧inB (f.f1.length:Int) 1 40=false)∨(inB f.f0 1 x.f0=true∧∃p,x.f3[i-1]?=some p∧0<i∧f.f0≤p.f0)∨(inB f.f0 1 x.f0=true∧∃p,x.f3[i-1]?=some p∧0<i∧¬f.f0≤p.f0∧inB (f.f1.length:Int) 1 40=false)))∨
  (FrHead x i f∧inB f.f0 1 x.f0=true∧inB (f.f1.length:Int) 1 40=true∧(i=0∨∃p,x.f3[i-1]?=some p∧0<i∧¬f.f0≤p.f0)):=by
 have hilt:=(List.getElem?_eq_some_iff.1 hi).1
 have nb:¬FrHead x i f→false=b:=fun h=>bfalse hb (fun hm=>h (hm.2 i f hi).1)
 by_cases h1:1≤f.f0∧f.f0≤x.f0
 ·by_cases h3:1≤(f.f1.length:Int)∧(f.f1.length:Int)≤40
  ·by_cases hz:i=0
   ·exact .inr ⟨⟨h1,fun g h0 _=>absurd h0 zq5,by omega⟩,zVa h1,zVa h3,.inl hz⟩
   ·have hp:x.f3[i-1]?=some (x.f3[i-1]'zq5):=List.getElem?_eq_getElem zq5
    by_cases h2:f.f0≤(x.f3[i-1]'zq5).f0
    ·exact .inl ⟨nb (fun h=>by have:=h.2.1 _ zq5 hp;omega),.inr (.inr (.inl ⟨zVa h1,_,hp,by omega,h2⟩))⟩
    ·exact .inr ⟨⟨h1,fun g _ hg=>by rw [hp] at hg;injection hg with hg;subst hg;omega,by omega⟩,zVa h1,zVa h3,.inr ⟨_,hp,by omega,h2⟩⟩
  ·have nh:false=b:=nb (fun h=>h3 (by have:=h.2.2;omega))
   by_cases hz:i=0
   ·exact .inl ⟨nh,.inr (.inl ⟨zVa h1,hz,inB_f h3⟩)⟩
   ·have hp:x.f3[i-1]?=some (x.f3[i-1]'zq5):=List.getElem?_eq_getElem zq5
    by_cases h2:f.f0≤(x.f3[i-1]'zq5).f0
    ·exact .inl ⟨nh,.inr (.inr (.inl ⟨zVa h1,_,hp,by omega,h2⟩))⟩
    ·exact .inl ⟨nh,.inr (.inr (.inr ⟨zVa h1,_,hp,by omega,h2,inB_f h3⟩))⟩
 ·exact .inl ⟨nb (fun h=>h1 h.1),.inl (inB_f h1)⟩
theorem pg_ways (x:S40) (i:Nat) (f:S112) (k:Nat) (p:Int) (b:Bool) (hb:b=true↔MOk x) (hi:x.f3[i]?=some f) (hk:f.f1[k]?=some p):
  (false=b∧((inB p 2 (x.f2-1)=false)∨(inB p 2 (x.f2-1)=true∧k=0∧hasB (zja x i++f.f1.take k) p=true)∨(inB p 2 (x.f2-1)=true∧∃q,f.f1[k-1]?=some q∧0<k∧p≤q)∨(inB p 2 (x.f2-1)=true∧∃q,f.f1[k-1]?=some q∧0<k∧¬p≤q∧hasB (zja x i++f.f1.take k) p=true)))∨
  (PgOk x (zja x i) f.f1 k p∧inB p 2 (x.f2-1)=true∧hasB (zja x i++f.f1.take k) p=false∧(k=0∨∃q,f.f1[k-1]?=some q∧0<k∧¬p≤q)):=by
 have hklt:=(List.getElem?_eq_some_iff.1 hk).1
 have nb:¬PgOk x (zja x i) f.f1 k p→false=b:=fun h=>bfalse hb (fun hm=>h ((hm.2 i f hi).2 k p hk))
 by_cases h1:2≤p∧p≤x.f2-1
 ·by_cases h3:p∈zja x i++f.f1.take k
  ·have nh:false=b:=nb (fun h=>h.2.2 h3)
   have h3':hasB (zja x i++f.f1.take k) p=true:=decide_eq_true h3
   by_cases hz:k=0
   ·exact .inl ⟨nh,.inr (.inl ⟨zVa h1,hz,h3'⟩)⟩
   ·have hp:f.f1[k-1]?=some (f.f1[k-1]'zq5):=List.getElem?_eq_getElem zq5
    by_cases h2:p≤f.f1[k-1]'zq5
    ·exact .inl ⟨nh,.inr (.inr (.inl ⟨zVa h1,_,hp,by omega,h2⟩))⟩
    ·exact .inl ⟨nh,.inr (.inr (.inr ⟨zVa h1,_,hp,by omega,h2,h3'⟩))⟩
  ·have h3':hasB (zja x i++f.f1.take k) p=false:=decide_eq_false h3
   by_cases hz:k=0
   ·exact .inr ⟨⟨h1,fun q h0 _=>absurd h0 zq5,h3⟩,zVa h1,h3',.inl hz⟩
   ·have hp:f.f1[k-1]?=some (f.f1[k-1]'zq5):=List.getElem?_eq_getElem zq5
    by_cases h2:p≤f.f1[k-1]'zq5
    ·exact .inl ⟨nb (fun h=>by have:=h.2.1 _ zq5 hp;omega),.inr (.inr (.inl ⟨zVa h1,_,hp,by omega,h2⟩))⟩
    ·exact .inr ⟨⟨h1,fun g _ hg=>by rw [hp] at hg;injection hg with hg;subst hg;omega,h3⟩,zVa h1,h3',.inr ⟨_,hp,by omega,h2⟩⟩
 ·exact .inl ⟨nb (fun h=>h1 h.1),.inl (inB_f h1)⟩
theorem seen_app {ops:Array Oper} {rest:List Oper} {o:Oper} {a:Act} {Q:Exit→Act→World→Prop} {w W:World} {cs cf:List Value} {seen:List Int} {v:Value} {gF:Nat} {p:Int} (hgd:o.guard=none) (s y:Operand) (ho:o.op= .call {callee:= .builtin .append,args:= #[s,y],argTypes:= #[29,29]}) (hs:a.eval s=v) (hy:a.eval y= .slice (some ⟨W.heap.size,0,none⟩) 1 1)
  (H:SeenAt w W cs seen v) (BF:W.heap[gF]?=some (.cells cf.toArray 112 (0,0))) (OW:∀k,v.ownBlock=some k→k≠gF) (hl:seen.length≤2000000)
  (h:∀v1 w1,Z0 (SeenAt w w1 cs (seen++[p]) v1)→Z0 (w1.heap[gF]?=some (.cells cf.toArray 112 (0,0)))→Z0 (∀k,v1.ownBlock=some k→k≠gF)→wpList Tryz.prog ops Q rest (a.put o.dst v1) w1):
  wpList Tryz.prog ops Q (o::rest) a (W.alloc (.cells #[.int .i64 p] 3)):=by
 refine Kd.R_append (Kd.int .i64) (w0:=w) w.heap.size hgd s y 29 3 (.int .i64 0) 8 ho Tryz.underlying29 info3 rfl zq14 zq14 v seen p [.int .i64 p] (fun k=>w.heap.size<k) (fun _=>False) hs hy rfl (fun _ h=>h.elim) (fun k hk=>Nat.lt_of_lt_of_le (zG H.box) hk) H.row H.bel H.bel.size zq5 ?_
 intro v1 w1 hr hb hg hat
 have hv:∀k,v.ownBlock=some k→w.heap.size<k:=H.row.1
 refine h v1 w1 ⟨hr,zI H.box hg (fun e=>by have:=hv _ e.symm;omega),hb⟩ ⟨zI BF hg (fun e=>OW _ e.symm rfl)⟩ ⟨fun k hk=> ?_⟩
 rcases hat with hat|⟨b,hb2,hle⟩
 ·exact OW k (by rw [←hat];exact hk)
 ·rw [hb2] at hk
  injection hk with hk
  have:=zG BF
  omega
theorem seen_len2 {x:S40} {i:Nat} (h0:∀(j:Nat) (f:S112),j<i→x.f3[j]?=some f→f.f1.length≤40):∀n,n≤i→n≤x.f3.length→(zja x n).length≤1+40*n
 |0,_,_=>by simp [zja]
 |n+1,hi,h=>by
  have he:x.f3[n]?=some x.f3[n]:=List.getElem?_eq_getElem h
  rw [seen_succ he,List.length_append]
  have:=seen_len2 h0 n zq5 zq5
  have:=h0 n _ zq5 he
  omega
theorem mh_ways (x:S40) (h:¬MHead x):(inB x.f0 0 100000=false)∨(inB x.f0 0 100000=true∧inB x.f2 2 40=false)∨((inB x.f0 0 100000=true∧inB x.f2 2 40=true∧2≤x.f2∧x.f2≤40)∧(((x.f1 !=0)=true∧(x.f1==0)=false∧inB x.f1 2 (x.f2-1)=false)∨(((x.f1 !=0)=false∧(x.f1==0)=true)∧(20<(x.f3.length:Int))=True)∨(((x.f1 !=0)=true∧(x.f1==0)=false∧inB x.f1 2 (x.f2-1)=true)∧(20<(x.f3.length:Int))=True))):=by
 by_cases h0:0≤x.f0∧x.f0≤100000
 ·by_cases h2:2≤x.f2∧x.f2≤40
  ·refine .inr (.inr ⟨⟨zVa h0,zVa h2,h2⟩,?_⟩)
   by_cases h1:x.f1=0
   ·refine .inr (.inl ⟨⟨by simp [h1],by simp [h1]⟩,eq_true ?_⟩)
    have:¬x.f3.length≤20:=fun hl=>h ⟨h0,h2,.inl h1,hl⟩
    omega
   ·by_cases h3:2≤x.f1∧x.f1≤x.f2-1
    ·refine .inr (.inr ⟨⟨by simp [h1],by simp [h1],zVa h3⟩,eq_true ?_⟩)
     have:¬x.f3.length≤20:=fun hl=>h ⟨h0,h2,.inr h3,hl⟩
     omega
    ·exact .inl ⟨by simp [h1],by simp [h1],inB_f h3⟩
  ·exact .inr (.inl ⟨zVa h0,inB_f h2⟩)
 ·exact .inl (inB_f h0)
theorem prev_at {w:World} {A:Option Addr} {n:Nat} {xs:List S112} (h:Kd.C k112 w A n xs) {i:Nat} {p:S112} (hp:xs[i]?=some p):∃ad,A=some ad∧w.cell? (ad.add (i*2))=some (.int .i64 p.f0):=by
 obtain ⟨hi,rfl⟩:=List.getElem?_eq_some_iff.1 hp
 obtain ⟨ad,v,cs,e,hk,hc,-⟩:=elem_at h hi zq14
 refine ⟨ad,e,?_⟩
 obtain ⟨A_,c_,hcs,-⟩:=k112_open hk
 injection hcs with h1 h2
 rw [←h1]
 exact hc
theorem specMetaOk_c (x:S40) (b:Bool) {cs:List Value} (w:World) (h:k40.K w x cs) (hb:b=true↔MOk x):
  Calls Tryz.prog 80 #[.agg cs.toArray] w fun e w'=>e= .returned (.bool b)∧Below w.heap.size w w':=by
 obtain ⟨AF,cF,rfl,mF,rF⟩:=zMa h
 have KR:=zz rF
 have HB:=zz hb
 have bn:=rF.2.1
 have hbl:=zz (zg (Below.refl w.heap.size w) (.cells #[.int .i64 x.f0,.int .i64 x.f1,.int .i64 x.f2,.slice AF x.f3.length cF] 40))
 have BA0:=zz (zka w (.cells #[.int .i64 x.f0,.int .i64 x.f1,.int .i64 x.f2,.slice AF x.f3.length cF] 40))
 clear h mF rF hb
 by_cases hh:MHead x
 ·obtain ⟨h0,h2,h1,hl⟩:=hh
  have HH:=zz (show MHead x from ⟨h0,h2,h1,hl⟩)
  have e0:=zVa h0
  have e2:=zVa h2
  have bl:(20<(x.f3.length:Int))=False:=eq_false zq5
  obtain ⟨h2a,h2b⟩:=h2
  clear h0
  have hv:((x.f1 !=0)=false∧(x.f1==0)=true)∨((x.f1 !=0)=true∧(x.f1==0)=false∧inB x.f1 2 (x.f2-1)=true):=by
   rcases h1 with h1|h1
   ·exact .inl (by simp [h1])
   ·exact .inr ⟨by simp;omega,by simp;omega,zVa h1⟩
  clear h1
  rcases hv with ⟨e1,e1'⟩|⟨e1,e1',e1''⟩
  all_goals
   go_enter Tryz.func80,Tryz.ntmps80
   go_wp2_with (((with_reducible refine (inS _ _ _ _).mono ?_);rintro e w1 ⟨rfl,rfl⟩))
   have H0:=zz (seen0 x [.int .i64 x.f0,.int .i64 x.f1,.int .i64 x.f2,.slice AF x.f3.length cF] w)
   go_loopg [3,4] (x.f3.length+1) (fun kq v3 v4 w'=>∃(i:Nat) (v:Value),v3=v∧v4= .int .i64 (i:Int)∧Z0 (kq+i=x.f3.length+1)∧Z0 (i≤x.f3.length)∧Z0 (∀(j:Nat) (f:S112),j<i→x.f3[j]?=some f→FrHead x j f∧FrPages x j f)∧Z0 (SeenAt w w' [.int .i64 x.f0,.int .i64 x.f1,.int .i64 x.f2,.slice AF x.f3.length cF] (zja x i) v))
   case atStart=>exact ⟨0,_,rfl,rfl,⟨by omega⟩,⟨Nat.zero_le _⟩,⟨fun j f h=>absurd h (Nat.not_lt_zero _)⟩,H0⟩
   case round=>
    clear H0 e0 e1 e1' e2 bl BA0 hbl
    obtain ⟨i,v,rfl,rfl,HQ,HI,HP,HS⟩:=hrel
    have hp3:wr.cell? ⟨w.heap.size,3,none⟩=some (.slice AF x.f3.length cF):=(ze HS.out.box 3).trans rfl
    by_cases hlt:i<x.f3.length
    ·have c1:decide ((i:Int)<(x.f3.length:Int))=true:=decide_eq_true zq5
     have c0:decide ((0:Int)≤(i:Int))=true:=decide_eq_true zq5
     have c2:((i:Int)<(x.f3.length:Int))=True:=eq_true zq5
     have c3:((0:Int)≤(i:Int))=True:=eq_true zq5
     cases gk with
     |zero=>exact absurd HQ.out zq5
     |succ k1=>
      obtain ⟨ad,A1,c1_,hA,z0,z1,hl4,hC4⟩:=at_T112 KR.out (i:Int) zq5 zq5
      subst hA
      obtain ⟨el,hel⟩:∃el,el=zS x.f3 (i:Int):=⟨_,rfl⟩
      have hel2:x.f3[i]?=some el:=by rw [hel];simp [zS,List.getD_eq_getElem?_getD,List.getElem?_eq_getElem hlt]
      rw [←hel] at z0 z1 hl4 hC4
      simp only [Int.toNat_natCast] at z0 z1
      replace z0:=(HS.out.bel.cell (World.block_lt_of_cell? w _ z0)).trans z0
      replace z1:=(HS.out.bel.cell (World.block_lt_of_cell? w _ z1)).trans z1
      have HE:=zz hel2
      have KE:=zz hC4
      have be:el.f1.length≤9223372036854775807:=hC4.2.1
      have hz:=zG HS.out.box
      clear hel hel2 hC4 hl4
      go_upto_region 8 with (fail)
      obtain ⟨W1,hW1⟩:∃W1,W1=wr.alloc (.cells #[.int .i64 el.f0,.slice A1 el.f1.length c1_] 112):=⟨_,rfl⟩
      have BF:=zz (show W1.heap[wr.heap.size]?=some (.cells ([.int .i64 el.f0,.slice A1 el.f1.length c1_]:List Value).toArray 112 (0,0)) from by rw [hW1];exact zka wr _)
      have HB1:=zz (show Below wr.heap.size wr W1 from by rw [hW1];exact zg (Below.refl _ _) _)
      rw [←hW1]
      clear hW1 hp3 z0 z1
      obtain ⟨gF,hgF⟩:∃g,g=wr.heap.size:=⟨_,rfl⟩
      rw [←hgF] at BF hz ⊢
      have OW:=zz (show ∀k,u3.ownBlock=some k→k<gF from by rw [hgF];exact Kd.R_lt HS.out.row)
      replace HS:=zz (HS.out.step HB1.out)
      clear HB1 hgF
      have hp0:W1.cell? ⟨w.heap.size,0,none⟩=some (.int .i64 x.f0):=(ze HS.out.box 0).trans rfl
      have hp3:W1.cell? ⟨w.heap.size,3,none⟩=some (.slice (some ad) x.f3.length cF):=(ze HS.out.box 3).trans rfl
      have hf0:W1.cell? ⟨gF,0,none⟩=some (.int .i64 el.f0):=(ze BF.out 0).trans rfl
      have hf1:W1.cell? ⟨gF,1,none⟩=some (.slice A1 el.f1.length c1_):=(ze BF.out 1).trans rfl
      have hways:=fr_ways x i el b HB.out HE.out
      rcases hways with ⟨hbf,hways⟩|⟨hFr,eT,eL,hways⟩
      ·have HBF:=zz hbf
       clear hbf
       rcases hways with eT|⟨eT,hz0,eL⟩|⟨eT,p,hp,h0,hle⟩|⟨eT,p,hp,h0,hle,eL⟩
       ·go_quiet ((go_at_call 77;exact inSq _ _ _ _ _))
        go_wp2
        go_ret
        exact ⟨rb HBF.out,zk HS.out.bel (zR _ _)⟩
       ·have q1:decide ((0:Int)<(i:Int))=false:=decide_eq_false zq5
        have q2:decide (0<i)=false:=decide_eq_false zq5
        clear hz0
        go_quiet ((go_at_call 77;exact inSq _ _ _ _ _))
        go_wp2
        go_ret
        exact ⟨rb HBF.out,zk HS.out.bel (zR _ _)⟩
       ·have q1:decide ((0:Int)<(i:Int))=true:=decide_eq_true zq5
        have q2:decide (0<i)=true:=decide_eq_true zq5
        have hs1:IntKind.i64.wrap ((i:Int)-1)=((i-1:Nat):Int):=by rw [zA];unfold wrap64;omega
        have hs2:(0:Int)≤((i-1:Nat):Int):=by omega
        have hs3:((i-1:Nat):Int)<(x.f3.length:Int):=by omega
        obtain ⟨ad2,hA2,zp⟩:=prev_at KR.out hp
        injection hA2 with hA2
        subst hA2
        clear hp
        replace zp:=zo zp HS.out.bel
        have q3:decide (el.f0≤p.f0)=true:=decide_eq_true hle
        go_quiet ((go_at_call 77;exact inSq _ _ _ _ _))
        go_wp2
        go_ret
        exact ⟨rb HBF.out,zk HS.out.bel (zR _ _)⟩
       ·have q1:decide ((0:Int)<(i:Int))=true:=decide_eq_true zq5
        have q2:decide (0<i)=true:=decide_eq_true zq5
        have hs1:IntKind.i64.wrap ((i:Int)-1)=((i-1:Nat):Int):=by rw [zA];unfold wrap64;omega
        have hs2:(0:Int)≤((i-1:Nat):Int):=by omega
        have hs3:((i-1:Nat):Int)<(x.f3.length:Int):=by omega
        obtain ⟨ad2,hA2,zp⟩:=prev_at KR.out hp
        injection hA2 with hA2
        subst hA2
        clear hp
        replace zp:=zo zp HS.out.bel
        have q3:decide (el.f0≤p.f0)=false:=decide_eq_false hle
        go_quiet ((go_at_call 77;exact inSq _ _ _ _ _))
        go_wp2
        go_ret
        exact ⟨rb HBF.out,zk HS.out.bel (zR _ _)⟩
      ·have HFR:=zz hFr
       have hel1:el.f1.length≤40:=hFr.2.2.2
       clear hFr
       rcases hways with hz0|⟨p,hp,h0,hle⟩
       ·have q1:decide ((0:Int)<(i:Int))=false:=decide_eq_false zq5
        have q2:decide (0<i)=false:=decide_eq_false zq5
        clear hz0
        go_quiet ((go_at_call 77;exact inSq _ _ _ _ _))
        simp only [eT,eL]
        clear eT eL
        obtain ⟨W2,hW2⟩:∃W2,W2=W1.drewN nq:=⟨_,rfl⟩
        have HB2:=zz (show Below W1.heap.size W1 W2 from by rw [hW2];exact zR _ _)
        rw [←hW2]
        clear hW2 hp0 hp3 hf0 hf1
        replace HS:=zz (HS.out.step HB2.out)
        replace BF:=zz (zu BF.out HB2.out)
        clear HB2
        go_wp2
        go_loopg [3,6] (el.f1.length+1) (fun kq v3 v6 w'=>∃(k:Nat) (v:Value),v3=v∧v6= .int .i64 (k:Int)∧Z0 (kq+k=el.f1.length+1)∧Z0 (k≤el.f1.length)∧Z0 (∀(j:Nat) (p:Int),j<k→el.f1[j]?=some p→PgOk x (zja x i) el.f1 j p)∧Z0 (SeenAt w w' [.int .i64 x.f0,.int .i64 x.f1,.int .i64 x.f2,.slice (some ad) x.f3.length cF] (zja x i++el.f1.take k) v)∧Z0 (w'.heap[gF]?=some (.cells ([.int .i64 el.f0,.slice A1 el.f1.length c1_]:List Value).toArray 112 (0,0)))∧Z0 (∀q,v.ownBlock=some q→q≠gF))
        case atStart=>exact ⟨0,_,rfl,rfl,⟨by omega⟩,⟨Nat.zero_le _⟩,⟨fun j p h=>absurd h (Nat.not_lt_zero _)⟩,⟨by rw [List.take_zero,List.append_nil];exact HS.out⟩,BF,⟨fun q hq=>Nat.ne_of_lt (OW.out q hq)⟩⟩
        case round=>
         clear HS BF OW
         obtain ⟨k,v,rfl,rfl,HQ2,HI2,HP2,HS,BF,OW⟩:=hrel
         have hf1:wr.cell? ⟨gF,1,none⟩=some (.slice A1 el.f1.length c1_):=(ze BF.out 1).trans rfl
         obtain ⟨sn,hsn⟩:∃sn,sn=zja x i++el.f1.take k:=⟨_,rfl⟩
         have hsl:sn.length≤2000:=by
          have h1:=seen_len2 (fun j f hj hf=>(HP.out j f hj hf).1.2.2.2) i (Nat.le_refl _) HI.out
          have h2:=List.length_take_le k el.f1
          have h3:=HI.out
          have h4:=HI2.out
          rw [hsn,List.length_append]
          omega
         rw [←hsn] at HS
         have HSN:=zz hsn
         clear hsn
         obtain ⟨Av,cv,rfl⟩:=Kd.R_slice HS.out.row
         by_cases hk:k<el.f1.length
         ·have d1:decide ((k:Int)<(el.f1.length:Int))=true:=decide_eq_true zq5
          have d0:decide ((0:Int)≤(k:Int))=true:=decide_eq_true zq5
          have d2:((k:Int)<(el.f1.length:Int))=True:=eq_true zq5
          have d3:((0:Int)≤(k:Int))=True:=eq_true zq5
          cases gk with
          |zero=>exact absurd HQ2.out zq5
          |succ k2=>
           obtain ⟨ap,hAp,pc⟩:=C_at KE.out hk
           subst hAp
           obtain ⟨p,hp⟩:∃p,p=el.f1[k]:=⟨_,rfl⟩
           rw [←hp] at pc
           have HPK:=zz (show el.f1[k]?=some p from by rw [hp];exact List.getElem?_eq_getElem hk)
           clear hp
           replace pc:=zo pc HS.out.bel
           have hp2:wr.cell? ⟨w.heap.size,2,none⟩=some (.int .i64 x.f2):=(ze HS.out.box 2).trans rfl
           have KS:=zz (Kd.R_reads' HS.out.row).2.2
           have hsl2:sn.length≤2000000:=by omega
           go_upto_region 13 with (fail)
           have hways:=pg_ways x i el k p b HB.out HE.out HPK.out
           rw [←HSN.out] at hways
           have HW2:=zz (show IntKind.i64.wrap (x.f2-1)=x.f2-1 from by rw [zA];unfold wrap64;omega)
           rcases hways with ⟨hbf,hways⟩|⟨hPg,eP,eS,hways⟩
           ·have HBF:=zz hbf
            clear hbf
            rcases hways with eP|⟨eP,hz0,eS⟩|⟨eP,q,hq,h0,hle⟩|⟨eP,q,hq,h0,hle,eS⟩
            ·have hw2:=HW2.out
             go_quiet (first|(go_at_call 77;exact inSq _ _ _ _ _)|(go_at_call 78;exact hasSq _ _ _ _ _ _ KS.out hsl2))
             go_wp2
             go_ret
             exact ⟨rb HBF.out,zk HS.out.bel (zR _ _)⟩
            ·have q1:decide ((0:Int)<(k:Int))=false:=decide_eq_false zq5
             have q2:decide (0<k)=false:=decide_eq_false zq5
             have hw2:=HW2.out
             clear hz0
             go_quiet (first|(go_at_call 77;exact inSq _ _ _ _ _)|(go_at_call 78;exact hasSq _ _ _ _ _ _ KS.out hsl2))
             go_wp2
             go_ret
             exact ⟨rb HBF.out,zk HS.out.bel (zR _ _)⟩
            ·have q1:decide ((0:Int)<(k:Int))=true:=decide_eq_true zq5
             have q2:decide (0<k)=true:=decide_eq_true zq5
             have hs1:IntKind.i64.wrap ((k:Int)-1)=((k-1:Nat):Int):=by rw [zA];unfold wrap64;omega
             have hs2:(0:Int)≤((k-1:Nat):Int):=by omega
             have hs3:((k-1:Nat):Int)<(el.f1.length:Int):=by omega
             obtain ⟨hql,hqv⟩:=List.getElem?_eq_some_iff.1 hq
             obtain ⟨ap2,hA2,zq⟩:=C_at KE.out hql
             rw [hqv] at zq
             injection hA2 with hA2
             subst hA2
             clear hqv hq
             replace zq:=zo zq HS.out.bel
             have hw2:=HW2.out
             have q3:decide (p≤q)=true:=decide_eq_true hle
             go_quiet (first|(go_at_call 77;exact inSq _ _ _ _ _)|(go_at_call 78;exact hasSq _ _ _ _ _ _ KS.out hsl2))
             go_wp2
             go_ret
             exact ⟨rb HBF.out,zk HS.out.bel (zR _ _)⟩
            ·have q1:decide ((0:Int)<(k:Int))=true:=decide_eq_true zq5
             have q2:decide (0<k)=true:=decide_eq_true zq5
             have hs1:IntKind.i64.wrap ((k:Int)-1)=((k-1:Nat):Int):=by rw [zA];unfold wrap64;omega
             have hs2:(0:Int)≤((k-1:Nat):Int):=by omega
             have hs3:((k-1:Nat):Int)<(el.f1.length:Int):=by omega
             obtain ⟨hql,hqv⟩:=List.getElem?_eq_some_iff.1 hq
             obtain ⟨ap2,hA2,zq⟩:=C_at KE.out hql
             rw [hqv] at zq
             injection hA2 with hA2
             subst hA2
             clear hqv hq
             replace zq:=zo zq HS.out.bel
             have hw2:=HW2.out
             have q3:decide (p≤q)=false:=decide_eq_false hle
             go_quiet (first|(go_at_call 77;exact inSq _ _ _ _ _)|(go_at_call 78;exact hasSq _ _ _ _ _ _ KS.out hsl2))
             go_wp2
             go_ret
             exact ⟨rb HBF.out,zk HS.out.bel (zR _ _)⟩
           ·have HPG:=zz hPg
            clear hPg
            rcases hways with hz0|⟨q,hq,h0,hle⟩
            ·have q1:decide ((0:Int)<(k:Int))=false:=decide_eq_false zq5
             have q2:decide (0<k)=false:=decide_eq_false zq5
             have hw2:=HW2.out
             clear hz0
             go_quiet (first|(go_at_call 77;exact inSq _ _ _ _ _)|(go_at_call 78;exact hasSq _ _ _ _ _ _ KS.out hsl2))
             obtain ⟨W3,hW3⟩:∃W3,W3=wr.drewN nq:=⟨_,rfl⟩
             have HB3:=zz (show Below wr.heap.size wr W3 from by rw [hW3];exact zR _ _)
             rw [←hW3]
             clear hW3 hp2 hf1 hw2
             replace pc:=zo pc HB3.out
             replace HS:=zz (HS.out.step HB3.out)
             replace BF:=zz (zu BF.out HB3.out)
             have hf1:W3.cell? ⟨gF,1,none⟩=some (.slice (some ap) el.f1.length c1_):=(ze BF.out 1).trans rfl
             clear HB3
             go_wp2_with ((with_reducible refine zQ (b:= .append) (xs:= #[.tmp 125,.tmp 131]) rfl ?_);at_builtin;refine seen_app rfl (.tmp 125) (.tmp 131) rfl rfl rfl HS.out BF.out OW.out hsl2 ?_;intro v1 w1 HS1 BF1 OW1)
             go_roundg k2
             case measure=>omega
             case rel=>exact ⟨k+1,_,rfl,by go_num,⟨by have:=HQ2.out;omega⟩,⟨by omega⟩,⟨fun j p2 hj hf=>by
              rcases Nat.lt_or_ge j k with h2|h2
              ·exact HP2.out j p2 h2 hf
              ·obtain rfl:j=k:=by omega
               have:=HPK.out.symm.trans hf
               injection this with this
               subst this
               exact HPG.out⟩,⟨by
               obtain ⟨hkl,hkv⟩:=List.getElem?_eq_some_iff.1 HPK.out
               rw [List.take_succ_eq_append_getElem hkl,hkv,←List.append_assoc,←HSN.out]
               exact HS1.out⟩,BF1,OW1⟩
            ·have q1:decide ((0:Int)<(k:Int))=true:=decide_eq_true zq5
             have q2:decide (0<k)=true:=decide_eq_true zq5
             have hs1:IntKind.i64.wrap ((k:Int)-1)=((k-1:Nat):Int):=by rw [zA];unfold wrap64;omega
             have hs2:(0:Int)≤((k-1:Nat):Int):=by omega
             have hs3:((k-1:Nat):Int)<(el.f1.length:Int):=by omega
             obtain ⟨hql,hqv⟩:=List.getElem?_eq_some_iff.1 hq
             obtain ⟨ap2,hA2,zq⟩:=C_at KE.out hql
             rw [hqv] at zq
             injection hA2 with hA2
             subst hA2
             clear hqv hq
             replace zq:=zo zq HS.out.bel
             have hw2:=HW2.out
             have q3:decide (p≤q)=false:=decide_eq_false hle
             go_quiet (first|(go_at_call 77;exact inSq _ _ _ _ _)|(go_at_call 78;exact hasSq _ _ _ _ _ _ KS.out hsl2))
             clear zq
             obtain ⟨W3,hW3⟩:∃W3,W3=wr.drewN nq:=⟨_,rfl⟩
             have HB3:=zz (show Below wr.heap.size wr W3 from by rw [hW3];exact zR _ _)
             rw [←hW3]
             clear hW3 hp2 hf1 hw2
             replace pc:=zo pc HB3.out
             replace HS:=zz (HS.out.step HB3.out)
             replace BF:=zz (zu BF.out HB3.out)
             have hf1:W3.cell? ⟨gF,1,none⟩=some (.slice (some ap) el.f1.length c1_):=(ze BF.out 1).trans rfl
             clear HB3
             go_wp2_with ((with_reducible refine zQ (b:= .append) (xs:= #[.tmp 125,.tmp 131]) rfl ?_);at_builtin;refine seen_app rfl (.tmp 125) (.tmp 131) rfl rfl rfl HS.out BF.out OW.out hsl2 ?_;intro v1 w1 HS1 BF1 OW1)
             go_roundg k2
             case measure=>omega
             case rel=>exact ⟨k+1,_,rfl,by go_num,⟨by have:=HQ2.out;omega⟩,⟨by omega⟩,⟨fun j p2 hj hf=>by
              rcases Nat.lt_or_ge j k with h2|h2
              ·exact HP2.out j p2 h2 hf
              ·obtain rfl:j=k:=by omega
               have:=HPK.out.symm.trans hf
               injection this with this
               subst this
               exact HPG.out⟩,⟨by
               obtain ⟨hkl,hkv⟩:=List.getElem?_eq_some_iff.1 HPK.out
               rw [List.take_succ_eq_append_getElem hkl,hkv,←List.append_assoc,←HSN.out]
               exact HS1.out⟩,BF1,OW1⟩
         ·have d1:decide ((k:Int)<(el.f1.length:Int))=false:=decide_eq_false zq5
          have hk2:k=el.f1.length:=by have:=HI2.out;omega
          have hsn:sn=zja x (i+1):=by rw [HSN.out,hk2,List.take_length,seen_succ HE.out]
          subst hk2
          obtain ⟨nn,hnn⟩:∃n,n=sn.length:=⟨_,rfl⟩
          go_wp2
          go_roundg k1
          case measure=>omega
          case rel=>exact ⟨i+1,_,rfl,by go_num,⟨by have:=HQ.out;omega⟩,⟨by omega⟩,⟨fun j f hj hf=>by
           rcases Nat.lt_or_ge j i with h2|h2
           ·exact HP.out j f h2 hf
           ·obtain rfl:j=i:=by omega
            have:=HE.out.symm.trans hf
            injection this with this
            subst this
            exact ⟨HFR.out,fun k p hp=>HP2.out k p (List.getElem?_eq_some_iff.1 hp).1 hp⟩⟩,⟨by rw [←hsn];exact HS.out⟩⟩
       ·have q1:decide ((0:Int)<(i:Int))=true:=decide_eq_true zq5
        have q2:decide (0<i)=true:=decide_eq_true zq5
        have hs1:IntKind.i64.wrap ((i:Int)-1)=((i-1:Nat):Int):=by rw [zA];unfold wrap64;omega
        have hs2:(0:Int)≤((i-1:Nat):Int):=by omega
        have hs3:((i-1:Nat):Int)<(x.f3.length:Int):=by omega
        obtain ⟨ad2,hA2,zp⟩:=prev_at KR.out hp
        injection hA2 with hA2
        subst hA2
        clear hp
        replace zp:=zo zp HS.out.bel
        have q3:decide (el.f0≤p.f0)=false:=decide_eq_false hle
        go_quiet ((go_at_call 77;exact inSq _ _ _ _ _))
        simp only [eT,eL]
        clear eT eL
        obtain ⟨W2,hW2⟩:∃W2,W2=W1.drewN nq:=⟨_,rfl⟩
        have HB2:=zz (show Below W1.heap.size W1 W2 from by rw [hW2];exact zR _ _)
        rw [←hW2]
        clear hW2 hp0 hp3 hf0 hf1
        replace HS:=zz (HS.out.step HB2.out)
        replace BF:=zz (zu BF.out HB2.out)
        clear HB2
        go_wp2
        go_loopg [3,6] (el.f1.length+1) (fun kq v3 v6 w'=>∃(k:Nat) (v:Value),v3=v∧v6= .int .i64 (k:Int)∧Z0 (kq+k=el.f1.length+1)∧Z0 (k≤el.f1.length)∧Z0 (∀(j:Nat) (p:Int),j<k→el.f1[j]?=some p→PgOk x (zja x i) el.f1 j p)∧Z0 (SeenAt w w' [.int .i64 x.f0,.int .i64 x.f1,.int .i64 x.f2,.slice (some ad) x.f3.length cF] (zja x i++el.f1.take k) v)∧Z0 (w'.heap[gF]?=some (.cells ([.int .i64 el.f0,.slice A1 el.f1.length c1_]:List Value).toArray 112 (0,0)))∧Z0 (∀q,v.ownBlock=some q→q≠gF))
        case atStart=>exact ⟨0,_,rfl,rfl,⟨by omega⟩,⟨Nat.zero_le _⟩,⟨fun j p h=>absurd h (Nat.not_lt_zero _)⟩,⟨by rw [List.take_zero,List.append_nil];exact HS.out⟩,BF,⟨fun q hq=>Nat.ne_of_lt (OW.out q hq)⟩⟩
        case round=>
         clear HS BF OW
         obtain ⟨k,v,rfl,rfl,HQ2,HI2,HP2,HS,BF,OW⟩:=hrel
         have hf1:wr.cell? ⟨gF,1,none⟩=some (.slice A1 el.f1.length c1_):=(ze BF.out 1).trans rfl
         obtain ⟨sn,hsn⟩:∃sn,sn=zja x i++el.f1.take k:=⟨_,rfl⟩
         have hsl:sn.length≤2000:=by
          have h1:=seen_len2 (fun j f hj hf=>(HP.out j f hj hf).1.2.2.2) i (Nat.le_refl _) HI.out
          have h2:=List.length_take_le k el.f1
          have h3:=HI.out
          have h4:=HI2.out
          rw [hsn,List.length_append]
          omega
         rw [←hsn] at HS
         have HSN:=zz hsn
         clear hsn
         obtain ⟨Av,cv,rfl⟩:=Kd.R_slice HS.out.row
         by_cases hk:k<el.f1.length
         ·have d1:decide ((k:Int)<(el.f1.length:Int))=true:=decide_eq_true zq5
          have d0:decide ((0:Int)≤(k:Int))=true:=decide_eq_true zq5
          have d2:((k:Int)<(el.f1.length:Int))=True:=eq_true zq5
          have d3:((0:Int)≤(k:Int))=True:=eq_true zq5
          cases gk with
          |zero=>exact absurd HQ2.out zq5
          |succ k2=>
           obtain ⟨ap,hAp,pc⟩:=C_at KE.out hk
           subst hAp
           obtain ⟨p,hp⟩:∃p,p=el.f1[k]:=⟨_,rfl⟩
           rw [←hp] at pc
           have HPK:=zz (show el.f1[k]?=some p from by rw [hp];exact List.getElem?_eq_getElem hk)
           clear hp
           replace pc:=zo pc HS.out.bel
           have hp2:wr.cell? ⟨w.heap.size,2,none⟩=some (.int .i64 x.f2):=(ze HS.out.box 2).trans rfl
           have KS:=zz (Kd.R_reads' HS.out.row).2.2
           have hsl2:sn.length≤2000000:=by omega
           go_upto_region 13 with (fail)
           have hways:=pg_ways x i el k p b HB.out HE.out HPK.out
           rw [←HSN.out] at hways
           have HW2:=zz (show IntKind.i64.wrap (x.f2-1)=x.f2-1 from by rw [zA];unfold wrap64;omega)
           rcases hways with ⟨hbf,hways⟩|⟨hPg,eP,eS,hways⟩
           ·have HBF:=zz hbf
            clear hbf
            rcases hways with eP|⟨eP,hz0,eS⟩|⟨eP,q,hq,h0,hle⟩|⟨eP,q,hq,h0,hle,eS⟩
            ·have hw2:=HW2.out
             go_quiet (first|(go_at_call 77;exact inSq _ _ _ _ _)|(go_at_call 78;exact hasSq _ _ _ _ _ _ KS.out hsl2))
             go_wp2
             go_ret
             exact ⟨rb HBF.out,zk HS.out.bel (zR _ _)⟩
            ·have q1:decide ((0:Int)<(k:Int))=false:=decide_eq_false zq5
             have q2:decide (0<k)=false:=decide_eq_false zq5
             have hw2:=HW2.out
             clear hz0
             go_quiet (first|(go_at_call 77;exact inSq _ _ _ _ _)|(go_at_call 78;exact hasSq _ _ _ _ _ _ KS.out hsl2))
             go_wp2
             go_ret
             exact ⟨rb HBF.out,zk HS.out.bel (zR _ _)⟩
            ·have q1:decide ((0:Int)<(k:Int))=true:=decide_eq_true zq5
             have q2:decide (0<k)=true:=decide_eq_true zq5
             have hs1:IntKind.i64.wrap ((k:Int)-1)=((k-1:Nat):Int):=by rw [zA];unfold wrap64;omega
             have hs2:(0:Int)≤((k-1:Nat):Int):=by omega
             have hs3:((k-1:Nat):Int)<(el.f1.length:Int):=by omega
             obtain ⟨hql,hqv⟩:=List.getElem?_eq_some_iff.1 hq
             obtain ⟨ap2,hA2,zq⟩:=C_at KE.out hql
             rw [hqv] at zq
             injection hA2 with hA2
             subst hA2
             clear hqv hq
             replace zq:=zo zq HS.out.bel
             have hw2:=HW2.out
             have q3:decide (p≤q)=true:=decide_eq_true hle
             go_quiet (first|(go_at_call 77;exact inSq _ _ _ _ _)|(go_at_call 78;exact hasSq _ _ _ _ _ _ KS.out hsl2))
             go_wp2
             go_ret
             exact ⟨rb HBF.out,zk HS.out.bel (zR _ _)⟩
            ·have q1:decide ((0:Int)<(k:Int))=true:=decide_eq_true zq5
             have q2:decide (0<k)=true:=decide_eq_true zq5
             have hs1:IntKind.i64.wrap ((k:Int)-1)=((k-1:Nat):Int):=by rw [zA];unfold wrap64;omega
             have hs2:(0:Int)≤((k-1:Nat):Int):=by omega
             have hs3:((k-1:Nat):Int)<(el.f1.length:Int):=by omega
             obtain ⟨hql,hqv⟩:=List.getElem?_eq_some_iff.1 hq
             obtain ⟨ap2,hA2,zq⟩:=C_at KE.out hql
             rw [hqv] at zq
             injection hA2 with hA2
             subst hA2
             clear hqv hq
             replace zq:=zo zq HS.out.bel
             have hw2:=HW2.out
             have q3:decide (p≤q)=false:=decide_eq_false hle
             go_quiet (first|(go_at_call 77;exact inSq _ _ _ _ _)|(go_at_call 78;exact hasSq _ _ _ _ _ _ KS.out hsl2))
             go_wp2
             go_ret
             exact ⟨rb HBF.out,zk HS.out.bel (zR _ _)⟩
           ·have HPG:=zz hPg
            clear hPg
            rcases hways with hz0|⟨q,hq,h0,hle⟩
            ·have q1:decide ((0:Int)<(k:Int))=false:=decide_eq_false zq5
             have q2:decide (0<k)=false:=decide_eq_false zq5
             have hw2:=HW2.out
             clear hz0
             go_quiet (first|(go_at_call 77;exact inSq _ _ _ _ _)|(go_at_call 78;exact hasSq _ _ _ _ _ _ KS.out hsl2))
             obtain ⟨W3,hW3⟩:∃W3,W3=wr.drewN nq:=⟨_,rfl⟩
             have HB3:=zz (show Below wr.heap.size wr W3 from by rw [hW3];exact zR _ _)
             rw [←hW3]
             clear hW3 hp2 hf1 hw2
             replace pc:=zo pc HB3.out
             replace HS:=zz (HS.out.step HB3.out)
             replace BF:=zz (zu BF.out HB3.out)
             have hf1:W3.cell? ⟨gF,1,none⟩=some (.slice (some ap) el.f1.length c1_):=(ze BF.out 1).trans rfl
             clear HB3
             go_wp2_with ((with_reducible refine zQ (b:= .append) (xs:= #[.tmp 125,.tmp 131]) rfl ?_);at_builtin;refine seen_app rfl (.tmp 125) (.tmp 131) rfl rfl rfl HS.out BF.out OW.out hsl2 ?_;intro v1 w1 HS1 BF1 OW1)
             go_roundg k2
             case measure=>omega
             case rel=>exact ⟨k+1,_,rfl,by go_num,⟨by have:=HQ2.out;omega⟩,⟨by omega⟩,⟨fun j p2 hj hf=>by
              rcases Nat.lt_or_ge j k with h2|h2
              ·exact HP2.out j p2 h2 hf
              ·obtain rfl:j=k:=by omega
               have:=HPK.out.symm.trans hf
               injection this with this
               subst this
               exact HPG.out⟩,⟨by
               obtain ⟨hkl,hkv⟩:=List.getElem?_eq_some_iff.1 HPK.out
               rw [List.take_succ_eq_append_getElem hkl,hkv,←List.append_assoc,←HSN.out]
               exact HS1.out⟩,BF1,OW1⟩
            ·have q1:decide ((0:Int)<(k:Int))=true:=decide_eq_true zq5
             have q2:decide (0<k)=true:=decide_eq_true zq5
             have hs1:IntKind.i64.wrap ((k:Int)-1)=((k-1:Nat):Int):=by rw [zA];unfold wrap64;omega
             have hs2:(0:Int)≤((k-1:Nat):Int):=by omega
             have hs3:((k-1:Nat):Int)<(el.f1.length:Int):=by omega
             obtain ⟨hql,hqv⟩:=List.getElem?_eq_some_iff.1 hq
             obtain ⟨ap2,hA2,zq⟩:=C_at KE.out hql
             rw [hqv] at zq
             injection hA2 with hA2
             subst hA2
             clear hqv hq
             replace zq:=zo zq HS.out.bel
             have hw2:=HW2.out
             have q3:decide (p≤q)=false:=decide_eq_false hle
             go_quiet (first|(go_at_call 77;exact inSq _ _ _ _ _)|(go_at_call 78;exact hasSq _ _ _ _ _ _ KS.out hsl2))
             clear zq
             obtain ⟨W3,hW3⟩:∃W3,W3=wr.drewN nq:=⟨_,rfl⟩
             have HB3:=zz (show Below wr.heap.size wr W3 from by rw [hW3];exact zR _ _)
             rw [←hW3]
             clear hW3 hp2 hf1 hw2
             replace pc:=zo pc HB3.out
             replace HS:=zz (HS.out.step HB3.out)
             replace BF:=zz (zu BF.out HB3.out)
             have hf1:W3.cell? ⟨gF,1,none⟩=some (.slice (some ap) el.f1.length c1_):=(ze BF.out 1).trans rfl
             clear HB3
             go_wp2_with ((with_reducible refine zQ (b:= .append) (xs:= #[.tmp 125,.tmp 131]) rfl ?_);at_builtin;refine seen_app rfl (.tmp 125) (.tmp 131) rfl rfl rfl HS.out BF.out OW.out hsl2 ?_;intro v1 w1 HS1 BF1 OW1)
             go_roundg k2
             case measure=>omega
             case rel=>exact ⟨k+1,_,rfl,by go_num,⟨by have:=HQ2.out;omega⟩,⟨by omega⟩,⟨fun j p2 hj hf=>by
              rcases Nat.lt_or_ge j k with h2|h2
              ·exact HP2.out j p2 h2 hf
              ·obtain rfl:j=k:=by omega
               have:=HPK.out.symm.trans hf
               injection this with this
               subst this
               exact HPG.out⟩,⟨by
               obtain ⟨hkl,hkv⟩:=List.getElem?_eq_some_iff.1 HPK.out
               rw [List.take_succ_eq_append_getElem hkl,hkv,←List.append_assoc,←HSN.out]
               exact HS1.out⟩,BF1,OW1⟩
         ·have d1:decide ((k:Int)<(el.f1.length:Int))=false:=decide_eq_false zq5
          have hk2:k=el.f1.length:=by have:=HI2.out;omega
          have hsn:sn=zja x (i+1):=by rw [HSN.out,hk2,List.take_length,seen_succ HE.out]
          subst hk2
          obtain ⟨nn,hnn⟩:∃n,n=sn.length:=⟨_,rfl⟩
          go_wp2
          go_roundg k1
          case measure=>omega
          case rel=>exact ⟨i+1,_,rfl,by go_num,⟨by have:=HQ.out;omega⟩,⟨by omega⟩,⟨fun j f hj hf=>by
           rcases Nat.lt_or_ge j i with h2|h2
           ·exact HP.out j f h2 hf
           ·obtain rfl:j=i:=by omega
            have:=HE.out.symm.trans hf
            injection this with this
            subst this
            exact ⟨HFR.out,fun k p hp=>HP2.out k p (List.getElem?_eq_some_iff.1 hp).1 hp⟩⟩,⟨by rw [←hsn];exact HS.out⟩⟩
    ·have c1:decide ((i:Int)<(x.f3.length:Int))=false:=decide_eq_false zq5
     have hbt:true=b:=(HB.out.2 ⟨HH.out,fun j f hj=>HP.out j f (by have:=(List.getElem?_eq_some_iff.1 hj).1;have:=HI.out;omega) hj⟩).symm
     have HBT:=zz hbt
     clear hbt
     go_wp2
     go_ret
     exact ⟨rb HBT.out,HS.out.bel⟩
 ·have HBF:=zz (bfalse HB.out (fun h=>hh h.1))
  rcases mh_ways x hh with e0|⟨e0,e2⟩|⟨⟨e0,e2,h2a,h2b⟩,⟨e1,e1',e1''⟩|⟨⟨e1,e1'⟩,bl⟩|⟨⟨e1,e1',e1''⟩,bl⟩⟩
  all_goals
   clear hh
   go_enter Tryz.func80,Tryz.ntmps80
   go_wp2_with (((with_reducible refine (inS _ _ _ _).mono ?_);rintro e w1 ⟨rfl,rfl⟩))
   go_ret
   exact ⟨rb HBF.out,hbl.out⟩
def FreeOk (f:S112) (x:S40):Prop:=(∀k p,f.f1[k]?=some p→(2≤p∧p≤x.f2-1)∧∀q:Int,0<k→f.f1[k-1]?=some q→q<p)∧(1≤f.f0∧f.f0≤x.f0)∧(1≤f.f1.length∧f.f1.length≤40)
theorem fp_ways (f:S112) (x:S40) (k:Nat) (p:Int) (b:Bool) (hb:b=true↔FreeOk f x) (hk:f.f1[k]?=some p):
  (false=b∧(p<2∨(¬p<2∧x.f2≤p)∨(¬p<2∧¬x.f2≤p∧∃q,f.f1[k-1]?=some q∧0<k∧p≤q)))∨
  (((2≤p∧p≤x.f2-1)∧∀q:Int,0<k→f.f1[k-1]?=some q→q<p)∧¬p<2∧¬x.f2≤p∧(k=0∨∃q,f.f1[k-1]?=some q∧0<k∧¬p≤q)):=by
 have hklt:=(List.getElem?_eq_some_iff.1 hk).1
 have nb:¬((2≤p∧p≤x.f2-1)∧∀q:Int,0<k→f.f1[k-1]?=some q→q<p)→false=b:=fun h=>bfalse hb (fun hm=>h (hm.1 k p hk))
 by_cases h1:p<2
 ·exact .inl ⟨nb (fun h=>by have:=h.1;omega),.inl h1⟩
 by_cases h2:x.f2≤p
 ·exact .inl ⟨nb (fun h=>by have:=h.1;omega),.inr (.inl ⟨h1,h2⟩)⟩
 by_cases hz:k=0
 ·exact .inr ⟨⟨by omega,fun q h0 _=>absurd h0 zq5⟩,h1,h2,.inl hz⟩
 have hp:f.f1[k-1]?=some (f.f1[k-1]'zq5):=List.getElem?_eq_getElem zq5
 by_cases h3:p≤f.f1[k-1]'zq5
 ·exact .inl ⟨nb (fun h=>by have:=h.2 _ zq5 hp;omega),.inr (.inr ⟨h1,h2,_,hp,by omega,h3⟩)⟩
 ·exact .inr ⟨⟨by omega,fun g _ hg=>by rw [hp] at hg;injection hg with hg;subst hg;omega⟩,h1,h2,.inr ⟨_,hp,by omega,h3⟩⟩
theorem freeOk_c (f:S112) (x:S40) (b:Bool) {A1 AF:Option Addr} {c1_ cF:Nat} (w:World) (h:Kd.C (Kd.int .i64) w A1 f.f1.length f.f1) (hb:b=true↔FreeOk f x):
  Calls Tryz.prog 146 #[.agg #[.int .i64 f.f0,.slice A1 f.f1.length c1_],.agg #[.int .i64 x.f0,.int .i64 x.f1,.int .i64 x.f2,.slice AF x.f3.length cF]] w fun e w'=>e= .returned (.bool b)∧Below w.heap.size w w':=by
 have KE:=zz h
 have HB:=zz hb
 have bn:=h.2.1
 have B0:=zz (zh (zka w (.cells ([.int .i64 f.f0,.slice A1 f.f1.length c1_]:List Value).toArray 112)) (.cells ([.int .i64 x.f0,.int .i64 x.f1,.int .i64 x.f2,.slice AF x.f3.length cF]:List Value).toArray 40))
 have B1:=zz (zka (w.alloc (.cells ([.int .i64 f.f0,.slice A1 f.f1.length c1_]:List Value).toArray 112)) (.cells ([.int .i64 x.f0,.int .i64 x.f1,.int .i64 x.f2,.slice AF x.f3.length cF]:List Value).toArray 40))
 have hbl:=zz (zg (zg (Below.refl w.heap.size w) (.cells ([.int .i64 f.f0,.slice A1 f.f1.length c1_]:List Value).toArray 112)) (.cells ([.int .i64 x.f0,.int .i64 x.f1,.int .i64 x.f2,.slice AF x.f3.length cF]:List Value).toArray 40))
 clear h hb
 go_enter Tryz.func146,Tryz.ntmps146
 go_upto_region 1 with (fail)
 obtain ⟨W,hW⟩:∃W,W=(w.alloc (.cells #[.int .i64 f.f0,.slice A1 f.f1.length c1_] 112)).alloc (.cells #[.int .i64 x.f0,.int .i64 x.f1,.int .i64 x.f2,.slice AF x.f3.length cF] 40):=⟨_,rfl⟩
 rw [←hW]
 have hgs:(w.alloc (.cells ([.int .i64 f.f0,.slice A1 f.f1.length c1_]:List Value).toArray 112)).heap.size=w.heap.size+1:=by simp
 rw [hgs] at B1
 have hbW:Below w.heap.size w W:=by rw [hW];exact hbl.out
 have f0:W.cell? ⟨w.heap.size,0,none⟩=some (.int .i64 f.f0):=by rw [hW];exact (ze B0.out 0).trans rfl
 have f1:W.cell? ⟨w.heap.size,1,none⟩=some (.slice A1 f.f1.length c1_):=by rw [hW];exact (ze B0.out 1).trans rfl
 have m0:W.cell? ⟨w.heap.size+1,0,none⟩=some (.int .i64 x.f0):=by rw [hW];exact (ze B1.out 0).trans rfl
 have m2:W.cell? ⟨w.heap.size+1,2,none⟩=some (.int .i64 x.f2):=by rw [hW];exact (ze B1.out 2).trans rfl
 have HW:=zz hbW
 clear hW B0 B1 hbl hgs hbW
 go_wp2_with fail
 go_loop [10] (fun v10=>∃k:Nat,v10= .int .i64 (k:Int)∧k≤f.f1.length∧Z0 (∀(j:Nat) (p:Int),j<k→f.f1[j]?=some p→(2≤p∧p≤x.f2-1)∧∀q:Int,0<j→f.f1[j-1]?=some q→q<p)) (fun v10=>f.f1.length-(intOf v10).toNat)
 case atStart=>exact ⟨0,rfl,Nat.zero_le _,⟨fun j p h=>absurd h (Nat.not_lt_zero _)⟩⟩
 case round=>
  obtain ⟨k,rfl,hk0,HP⟩:=hrel
  by_cases hk:k<f.f1.length
  ·have d1:decide ((k:Int)<(f.f1.length:Int))=true:=decide_eq_true zq5
   have d0:decide ((0:Int)≤(k:Int))=true:=decide_eq_true zq5
   have d2:((k:Int)<(f.f1.length:Int))=True:=eq_true zq5
   have d3:((0:Int)≤(k:Int))=True:=eq_true zq5
   obtain ⟨ap,hAp,pc⟩:=C_at KE.out hk
   subst hAp
   obtain ⟨p,hp⟩:∃p,p=f.f1[k]:=⟨_,rfl⟩
   rw [←hp] at pc
   have HPK:=zz (show f.f1[k]?=some p from by rw [hp];exact List.getElem?_eq_getElem hk)
   clear hp
   replace pc:=zo pc HW.out
   have hw:=fp_ways f x k p b HB.out HPK.out
   rcases hw with ⟨hbf,hw⟩|⟨hg,h1,h2,hw⟩
   ·have HBF:=zz hbf
    clear hbf
    rcases hw with h1|⟨h1,h2⟩|⟨h1,h2,q,hq,h0,hle⟩
    ·have e1:decide (p<2)=true:=decide_eq_true h1
     go_wp2
     go_ret
     exact ⟨rb HBF.out,HW.out⟩
    ·have e1:decide (p<2)=false:=decide_eq_false h1
     have e2:decide (x.f2≤p)=true:=decide_eq_true h2
     go_wp2
     go_ret
     exact ⟨rb HBF.out,HW.out⟩
    ·have e1:decide (p<2)=false:=decide_eq_false h1
     have e2:decide (x.f2≤p)=false:=decide_eq_false h2
     have q1:decide ((0:Int)<(k:Int))=true:=decide_eq_true zq5
     have q2:decide (0<k)=true:=decide_eq_true zq5
     have hs2:(0:Int)≤((k-1:Nat):Int):=by omega
     have hs3:((k-1:Nat):Int)<(f.f1.length:Int):=by omega
     have hs4:(k:Int)-1=((k-1:Nat):Int):=by omega
     obtain ⟨hql,hqv⟩:=List.getElem?_eq_some_iff.1 hq
     obtain ⟨ap2,hA2,zq⟩:=C_at KE.out hql
     rw [hqv] at zq
     injection hA2 with hA2
     subst hA2
     clear hqv hq
     replace zq:=zo zq HW.out
     have q3:decide (p≤q)=true:=decide_eq_true hle
     go_wp2
     go_ret
     exact ⟨rb HBF.out,HW.out⟩
   ·have HG:=zz hg
    have e1:decide (p<2)=false:=decide_eq_false h1
    have e2:decide (x.f2≤p)=false:=decide_eq_false h2
    clear hg
    rcases hw with hz0|⟨q,hq,h0,hle⟩
    ·have q1:decide ((0:Int)<(k:Int))=false:=decide_eq_false zq5
     have q2:decide (0<k)=false:=decide_eq_false zq5
     clear hz0
     go_wp2
     go_round
     case rel=>exact ⟨k+1,by go_num,by omega,⟨fun j p2 hj hf=>by
      rcases Nat.lt_or_ge j k with h2|h2
      ·exact HP.out j p2 h2 hf
      ·obtain rfl:j=k:=by omega
       have:=HPK.out.symm.trans hf
       injection this with this
       subst this
       exact HG.out⟩⟩
     case measure=>simp [intOf];omega
    ·have q1:decide ((0:Int)<(k:Int))=true:=decide_eq_true zq5
     have q2:decide (0<k)=true:=decide_eq_true zq5
     have hs2:(0:Int)≤((k-1:Nat):Int):=by omega
     have hs3:((k-1:Nat):Int)<(f.f1.length:Int):=by omega
     have hs4:(k:Int)-1=((k-1:Nat):Int):=by omega
     obtain ⟨hql,hqv⟩:=List.getElem?_eq_some_iff.1 hq
     obtain ⟨ap2,hA2,zq⟩:=C_at KE.out hql
     rw [hqv] at zq
     injection hA2 with hA2
     subst hA2
     clear hqv hq
     replace zq:=zo zq HW.out
     have q3:decide (p≤q)=false:=decide_eq_false hle
     clear hle
     go_wp2
     go_round
     case rel=>exact ⟨k+1,by go_num,by omega,⟨fun j p2 hj hf=>by
      rcases Nat.lt_or_ge j k with h2|h2
      ·exact HP.out j p2 h2 hf
      ·obtain rfl:j=k:=by omega
       have:=HPK.out.symm.trans hf
       injection this with this
       subst this
       exact HG.out⟩⟩
     case measure=>simp [intOf];omega
  ·have d1:decide ((k:Int)<(f.f1.length:Int))=false:=decide_eq_false zq5
   have hk2:k=f.f1.length:=by omega
   have hall:∀(j:Nat) (p:Int),f.f1[j]?=some p→(2≤p∧p≤x.f2-1)∧∀q:Int,0<j→f.f1[j-1]?=some q→q<p:=fun j p hj=>HP.out j p (by have:=(List.getElem?_eq_some_iff.1 hj).1;omega) hj
   have hw:(inB f.f0 1 x.f0=false∧false=b)∨(inB f.f0 1 x.f0=true∧inB (f.f1.length:Int) 1 40=b):=by
    by_cases h1:1≤f.f0∧f.f0≤x.f0
    ·by_cases h2:1≤(f.f1.length:Int)∧(f.f1.length:Int)≤40
     ·exact .inr ⟨zVa h1,by rw [zVa h2];exact (HB.out.2 ⟨hall,h1,by omega⟩).symm⟩
     ·exact .inr ⟨zVa h1,by rw [inB_f h2];exact bfalse HB.out (fun h=>h2 (by have:=h.2.2;omega))⟩
    ·exact .inl ⟨inB_f h1,bfalse HB.out (fun h=>h1 h.2.1)⟩
   clear hall hk2
   rcases hw with ⟨e1,hw⟩|⟨e1,hw⟩
   all_goals
    have HX:=zz hw
    clear hw
    go_wp2_with (((with_reducible refine (inI _ _ _ _).mono ?_);rintro e w1 ⟨rfl,rfl⟩))
    go_ret
    exact ⟨rb HX.out,HW.out⟩
end Go.Proofs.YtonhdiemjgdcnaaGreat.PFnExactGivePage
namespace Go.Proofs.YtonhdiemjgdcnaaGreat.PFnExactGivePage
open Go.RowKit Go.Proofs.YtonhdiemjgdcnaaGreatW.PrintWords Go.Proofs.YtonhdiemjgdcnaaGreatW.PrintLast Go.Proofs.YtonhdiemjgdcnaaGreatW.PrintMore
attribute [local go_sem] zba zga zoa zna zW zV zfa zea
def IdxP (xs:List Int) (x:Int) (w:World) (e:Ending) (w':World):Prop:=∃r:Int,e= .returned (.int .i64 r)∧w=w'∧decide (0≤r)=hasB xs x
theorem idxI (xs:List Int) (x:Int) (A:Option Addr) (c:Nat) (w:World) (h:Kd.C (Kd.int .i64) w A xs.length xs) (hl:xs.length≤2000000):Calls Tryz.prog 120 #[.slice A xs.length c,.int .i64 x] w (IdxP xs x w):=by
 have H:=zz h
 clear h
 go_enter Tryz.func120,Tryz.ntmps120
 go_wp2
 go_loop [8] (fun v5=>∃i:Nat,v5= .int .i64 (i:Int)∧i≤xs.length∧Z0 (x∉xs.take i)) (fun v5=>xs.length-(intOf v5).toNat)
 case atStart=>exact ⟨0,rfl,Nat.zero_le _,⟨by simp⟩⟩
 case round=>
  obtain ⟨i,rfl,hi,HN⟩:=hrel
  by_cases hlt:i<xs.length
  ·obtain ⟨ad,hA,hc⟩:=C_at H.out hlt
   subst hA
   have c3:((0:Int)≤(i:Int))=True:=eq_true zq5
   have c2:((i:Int)<(xs.length:Int))=True:=eq_true zq5
   obtain ⟨y,hy⟩:∃y,y=xs[i]:=⟨_,rfl⟩
   rw [←hy] at hc
   have HY:=zz hy
   clear hy
   by_cases e:x=y
   ·have HE:=zz e
    have e1:(x==y)=true:=beq_iff_eq.2 e
    clear e
    go_wp2
    go_ret
    exact ⟨i,rfl,rfl,by rw [show hasB xs x=true from decide_eq_true (by rw [HE.out,HY.out];exact List.getElem_mem hlt)];exact decide_eq_true zq5⟩
   ·have e1:(x==y)=false:=beq_eq_false_iff_ne.2 e
    have HE:=zz e
    clear e
    go_wp2
    go_round
    case rel=>exact ⟨i+1,by go_num,by omega,⟨by
     rw [List.take_succ_eq_append_getElem hlt,←HY.out]
     simp only [List.mem_append,List.mem_singleton,not_or]
     exact ⟨HN.out,fun h=>HE.out h⟩⟩⟩
    case measure=>simp [intOf];omega
  ·have HI:=zz (show i=xs.length by omega)
   go_wp2
   go_ret
   exact ⟨-1,rfl,rfl,by rw [show hasB xs x=false from decide_eq_false (by have:=HN.out;rwa [HI.out,List.take_length] at this)];rfl⟩
theorem hasI (xs:List Int) (x:Int) (A:Option Addr) (c:Nat) (w:World) (h:Kd.C (Kd.int .i64) w A xs.length xs) (hl:xs.length≤2000000):Calls Tryz.prog 90 #[.slice A xs.length c,.int .i64 x] w fun e w'=>e= .returned (.bool (hasB xs x))∧w=w':=by
 have H:=zz h
 clear h
 go_enter Tryz.func90,Tryz.ntmps90
 go_wp2_with ((with_reducible refine (idxI xs x A c _ H.out hl).mono ?_);rintro e w1 ⟨r,rfl,rfl,hr⟩;have HR:=zz hr;clear hr)
 go_ret
 exact ⟨rb HR.out,rfl⟩
def implMetaOk.T7:Bool×List (List Nat×List Nat):=(true,[([],[]),([],[]),([0,1],[0,1]),([2],[2]),([3,2],[3]),([4],[4]),([5,4],[4,5]),([6,4,4],[4,6]),([7],[7]),([8,7],[7,8]),([7],[7]),([10,7],[7,10]),([9,11,7],[7,9,11]),([12,7],[7,12]),([13,7],[7,13]),([7],[7]),([15,7],[7,15]),([14,16,7],[7,14,16]),([7,17,4],[4,7,17]),([4,18],[4,18])])
def implMetaOk.B7:List Nat:=[0,0,3,7,15,31,63,127,255,511,255,1279,4095,8191,16383,255,33023,131071,262143,524287]
theorem implMetaOk.ok7_0:regB (zkb Tryz.f123 7) implMetaOk.T7 implMetaOk.B7 [] [.t 0,.t 1,.e 2,.p 3,.p 4,.p 5,.p 6,.p 7,.p 8,.p 9,.p 10,.p 11,.p 12,.p 13,.p 14,.p 15,.p 16,.p 17,.p 18,.p 19]=true:=by kernel_rfl
theorem implMetaOk.ok7_1:regB (zkb Tryz.f123 7) implMetaOk.T7 implMetaOk.B7 [] [.t 0,.t 1,.e 2,.p 3,.p 4,.p 5,.p 6,.p 7,.p 8,.t 9,.p 10,.p 11,.p 12,.p 13,.t 14,.p 15,.t 16,.p 17,.p 18,.p 19]=true:=by kernel_rfl
theorem fi_ways (x:S40) (i:Nat) (f:S112) (b:Bool) (hb:b=true↔MOk x) (hi:x.f3[i]?=some f):∃fb:Bool,(fb=true↔FreeOk f x)∧
  ((false=b∧(fb=false∨(fb=true∧∃p,x.f3[i-1]?=some p∧0<i∧f.f0≤p.f0)))∨(FrHead x i f∧FreeOk f x∧fb=true∧(i=0∨∃p,x.f3[i-1]?=some p∧0<i∧¬f.f0≤p.f0))):=by
 have hilt:=(List.getElem?_eq_some_iff.1 hi).1
 by_cases hf:FreeOk f x
 ·refine ⟨true,by simp [hf],?_⟩
  have nb:¬FrHead x i f→false=b:=fun h=>bfalse hb (fun hm=>h (hm.2 i f hi).1)
  by_cases hz:i=0
  ·exact .inr ⟨⟨hf.2.1,fun g h0 _=>absurd h0 zq5,hf.2.2⟩,hf,rfl,.inl hz⟩
  ·have hp:x.f3[i-1]?=some (x.f3[i-1]'zq5):=List.getElem?_eq_getElem zq5
   by_cases h2:f.f0≤(x.f3[i-1]'zq5).f0
   ·exact .inl ⟨nb (fun h=>by have:=h.2.1 _ zq5 hp;omega),.inr ⟨rfl,_,hp,by omega,h2⟩⟩
   ·exact .inr ⟨⟨hf.2.1,fun g _ hg=>by rw [hp] at hg;injection hg with hg;subst hg;omega,hf.2.2⟩,hf,rfl,.inr ⟨_,hp,by omega,h2⟩⟩
 ·refine ⟨false,by simp [hf],.inl ⟨bfalse hb (fun hm=>hf ?_),.inl rfl⟩⟩
  obtain ⟨h1,h2⟩:=hm.2 i f hi
  exact ⟨fun k p hk=>⟨(h2 k p hk).1,(h2 k p hk).2.1⟩,h1.1,h1.2.2⟩
theorem implMetaOk_c (x:S40) (b:Bool) {cs:List Value} (w:World) (h:k40.K w x cs) (hb:b=true↔MOk x):
  Calls Tryz.prog 123 #[.agg cs.toArray] w fun e w'=>e= .returned (.bool b)∧Below w.heap.size w w':=by
 obtain ⟨AF,cF,rfl,mF,rF⟩:=zMa h
 have KR:=zz rF
 have HB:=zz hb
 have bn:=rF.2.1
 have hbl:=zz (zg (Below.refl w.heap.size w) (.cells #[.int .i64 x.f0,.int .i64 x.f1,.int .i64 x.f2,.slice AF x.f3.length cF] 40))
 have BA0:=zz (zka w (.cells #[.int .i64 x.f0,.int .i64 x.f1,.int .i64 x.f2,.slice AF x.f3.length cF] 40))
 clear h mF rF hb
 by_cases hh:MHead x
 ·obtain ⟨h0,h2,h1,hl⟩:=hh
  have HH:=zz (show MHead x from ⟨h0,h2,h1,hl⟩)
  have e0:=zVa h0
  have e2:=zVa h2
  have bl:(20<(x.f3.length:Int))=False:=eq_false zq5
  obtain ⟨h2a,h2b⟩:=h2
  clear h0
  have hv:((x.f1 !=0)=false∧(x.f1==0)=true)∨((x.f1 !=0)=true∧(x.f1==0)=false∧inB x.f1 2 (x.f2-1)=true):=by
   rcases h1 with h1|h1
   ·exact .inl (by simp [h1])
   ·exact .inr ⟨by simp;omega,by simp;omega,zVa h1⟩
  clear h1
  rcases hv with ⟨e1,e1'⟩|⟨e1,e1',e1''⟩
  all_goals
   go_enter Tryz.func123,Tryz.ntmps123
   go_wp2_with (((with_reducible refine (inI _ _ _ _).mono ?_);rintro e w1 ⟨rfl,rfl⟩))
   have H0:=zz (seen0 x [.int .i64 x.f0,.int .i64 x.f1,.int .i64 x.f2,.slice AF x.f3.length cF] w)
   go_loopg [3,44] (x.f3.length+1) (fun kq v3 v4 w'=>∃(i:Nat) (v:Value),v3=v∧v4= .int .i64 (i:Int)∧Z0 (kq+i=x.f3.length+1)∧Z0 (i≤x.f3.length)∧Z0 (∀(j:Nat) (f:S112),j<i→x.f3[j]?=some f→FrHead x j f∧FrPages x j f)∧Z0 (SeenAt w w' [.int .i64 x.f0,.int .i64 x.f1,.int .i64 x.f2,.slice AF x.f3.length cF] (zja x i) v))
   case atStart=>exact ⟨0,_,rfl,rfl,⟨by omega⟩,⟨Nat.zero_le _⟩,⟨fun j f h=>absurd h (Nat.not_lt_zero _)⟩,H0⟩
   case round=>
    clear H0 e0 e1 e1' e2 bl BA0 hbl
    obtain ⟨i,v,rfl,rfl,HQ,HI,HP,HS⟩:=hrel
    by_cases hlt:i<x.f3.length
    ·have c1:decide ((i:Int)<(x.f3.length:Int))=true:=decide_eq_true zq5
     have c0:decide ((0:Int)≤(i:Int))=true:=decide_eq_true zq5
     have c2:((i:Int)<(x.f3.length:Int))=True:=eq_true zq5
     have c3:((0:Int)≤(i:Int))=True:=eq_true zq5
     cases gk with
     |zero=>exact absurd HQ.out zq5
     |succ k1=>
      obtain ⟨ad,A1,c1_,hA,z0,z1,hl4,hC4⟩:=at_T112 KR.out (i:Int) zq5 zq5
      subst hA
      obtain ⟨el,hel⟩:∃el,el=zS x.f3 (i:Int):=⟨_,rfl⟩
      have hel2:x.f3[i]?=some el:=by rw [hel];simp [zS,List.getD_eq_getElem?_getD,List.getElem?_eq_getElem hlt]
      rw [←hel] at z0 z1 hl4 hC4
      simp only [Int.toNat_natCast] at z0 z1
      replace z0:=(HS.out.bel.cell (World.block_lt_of_cell? w _ z0)).trans z0
      replace z1:=(HS.out.bel.cell (World.block_lt_of_cell? w _ z1)).trans z1
      have HE:=zz hel2
      have KE:=zz hC4
      have be:el.f1.length≤9223372036854775807:=hC4.2.1
      have hz:=zG HS.out.box
      clear hel hel2 hC4 hl4
      go_upto_region 7 with (fail)
      obtain ⟨W1,hW1⟩:∃W1,W1=wr.alloc (.cells #[.int .i64 el.f0,.slice A1 el.f1.length c1_] 112):=⟨_,rfl⟩
      have BF:=zz (show W1.heap[wr.heap.size]?=some (.cells ([.int .i64 el.f0,.slice A1 el.f1.length c1_]:List Value).toArray 112 (0,0)) from by rw [hW1];exact zka wr _)
      have HB1:=zz (show Below wr.heap.size wr W1 from by rw [hW1];exact zg (Below.refl _ _) _)
      rw [←hW1]
      clear hW1 z0 z1
      obtain ⟨gF,hgF⟩:∃g,g=wr.heap.size:=⟨_,rfl⟩
      rw [←hgF] at BF hz ⊢
      have OW:=zz (show ∀k,u3.ownBlock=some k→k<gF from by rw [hgF];exact Kd.R_lt HS.out.row)
      replace HS:=zz (HS.out.step HB1.out)
      clear HB1 hgF
      have hp0:W1.cell? ⟨w.heap.size,0,none⟩=some (.int .i64 x.f0):=(ze HS.out.box 0).trans rfl
      have hp1:W1.cell? ⟨w.heap.size,1,none⟩=some (.int .i64 x.f1):=(ze HS.out.box 1).trans rfl
      have hp2:W1.cell? ⟨w.heap.size,2,none⟩=some (.int .i64 x.f2):=(ze HS.out.box 2).trans rfl
      have hp3:W1.cell? ⟨w.heap.size,3,none⟩=some (.slice (some ad) x.f3.length cF):=(ze HS.out.box 3).trans rfl
      have hf0:W1.cell? ⟨gF,0,none⟩=some (.int .i64 el.f0):=(ze BF.out 0).trans rfl
      have hf1:W1.cell? ⟨gF,1,none⟩=some (.slice A1 el.f1.length c1_):=(ze BF.out 1).trans rfl
      obtain ⟨fb,hfb,hways⟩:=fi_ways x i el b HB.out HE.out
      have HFB:=zz hfb
      clear hfb
      have KE1:=zz (Kd.C_below KE.out HS.out.bel)
      rcases hways with ⟨hbf,hways⟩|⟨hFr,hFo,eT,hways⟩
      ·have HBF:=zz hbf
       clear hbf
       rcases hways with rfl|⟨rfl,p,hp,h0,hle⟩
       ·refine zTa implMetaOk.ok7_0 (S:=fun w'=>w'.cell? ⟨gF,0,none⟩=some (.int .i64 el.f0)∧w'.cell? ⟨gF,1,none⟩=some (.slice A1 el.f1.length c1_)∧w'.cell? ⟨w.heap.size,0,none⟩=some (.int .i64 x.f0)∧w'.cell? ⟨w.heap.size,1,none⟩=some (.int .i64 x.f1)∧w'.cell? ⟨w.heap.size,2,none⟩=some (.int .i64 x.f2)∧w'.cell? ⟨w.heap.size,3,none⟩=some (.slice (some ad) x.f3.length cF)) zq7 (fun _ _ _ _ h=>h) ⟨zo hf0 (Below.refl _ _).drew,zo hf1 (Below.refl _ _).drew,zo hp0 (Below.refl _ _).drew,zo hp1 (Below.refl _ _).drew,zo hp2 (Below.refl _ _).drew,zo hp3 (Below.refl _ _).drew⟩ (fun hHeld=> ?_)
        iterate 2 (refine zXa (v:= ?_) (a':= ?_) rfl rfl (Or.inl ⟨by rfl,?_⟩) ?_ ?_;rotate_left;(· rintro w' ⟨s0,s1,s2,s3,s4,s5⟩;go_simp;with_reducible rfl);rotate_left;(· show Act.put _ (some _) _=_;simp only [Act.put,List.setIfInBounds_toArray,List.set_cons_zero,List.set_cons_succ,zA,zF];try rfl))
        refine zwa rfl rfl Tryz.func146 zq7 rfl #[.agg #[.int .i64 el.f0,.slice A1 el.f1.length c1_],.agg #[.int .i64 x.f0,.int .i64 x.f1,.int .i64 x.f2,.slice (some ad) x.f3.length cF]] zq19 rfl zq13 ?_
        with_reducible refine (freeOk_c el x false _ (Kd.C_below KE1.out (Below.refl _ _).drew) HFB.out).mono ?_
        rintro e w2 ⟨rfl,hb⟩
        refine ⟨_,rfl,⟨zo (zo hf0 (Below.refl _ _).drew) hb,zo (zo hf1 (Below.refl _ _).drew) hb,zo (zo hp0 (Below.refl _ _).drew) hb,zo (zo hp1 (Below.refl _ _).drew) hb,zo (zo hp2 (Below.refl _ _).drew) hb,zo (zo hp3 (Below.refl _ _).drew) hb⟩,(fun hHeld=> ?_)⟩
        refine zqa (a':= ?_) ?_ ?_;rotate_left;(· show Act.put _ (some 51) _=_;simp only [Act.put,List.setIfInBounds_toArray,List.set_cons_zero,List.set_cons_succ,zA,zF];try rfl)
        iterate 2 (refine zra (v:= ?_) (a':= ?_) rfl rfl (Or.inl ⟨by rfl,?_⟩) ?_ ?_;rotate_left;(· intro w';go_simp;with_reducible rfl);rotate_left;(· show Act.put _ (some _) _=_;simp only [Act.put,List.setIfInBounds_toArray,List.set_cons_zero,List.set_cons_succ,zA,zF];try rfl))
        iterate 14 (refine zra (v:=undef) (a':= ?_) rfl rfl (Or.inr ⟨by rfl,rfl⟩) ?_ ?_;rotate_left;(· show Act.put _ (some _) _=_;simp only [Act.put,List.setIfInBounds_toArray,List.set_cons_zero,List.set_cons_succ,zA,zF];try rfl))
        (refine zra (v:= ?_) (a':= ?_) rfl rfl (Or.inl ⟨by rfl,?_⟩) ?_ ?_;rotate_left;(· intro w';go_simp;with_reducible rfl);rotate_left;(· show Act.put _ (some _) _=_;simp only [Act.put,List.setIfInBounds_toArray,List.set_cons_zero,List.set_cons_succ,zA,zF];try rfl))
        refine zcb ?_
        go_wp2
        go_ret
        exact ⟨rb HBF.out,zk HS.out.bel (zk (Below.refl _ _).drew hb)⟩
       ·have q1:decide ((0:Int)<(i:Int))=true:=decide_eq_true zq5
        have q2:decide (0<i)=true:=decide_eq_true zq5
        have hs1:IntKind.i64.wrap ((i:Int)-1)=((i-1:Nat):Int):=by rw [zA];unfold wrap64;omega
        have hs2:(0:Int)≤((i-1:Nat):Int):=by omega
        have hs3:((i-1:Nat):Int)<(x.f3.length:Int):=by omega
        obtain ⟨ad2,hA2,zp⟩:=prev_at KR.out hp
        injection hA2 with hA2
        subst hA2
        clear hp
        replace zp:=zo zp HS.out.bel
        have q3:decide (el.f0≤p.f0)=true:=decide_eq_true hle
        refine zTa implMetaOk.ok7_1 (S:=fun w'=>w'.cell? ⟨gF,0,none⟩=some (.int .i64 el.f0)∧w'.cell? ⟨gF,1,none⟩=some (.slice A1 el.f1.length c1_)∧w'.cell? ⟨w.heap.size,0,none⟩=some (.int .i64 x.f0)∧w'.cell? ⟨w.heap.size,1,none⟩=some (.int .i64 x.f1)∧w'.cell? ⟨w.heap.size,2,none⟩=some (.int .i64 x.f2)∧w'.cell? ⟨w.heap.size,3,none⟩=some (.slice (some ad) x.f3.length cF)∧w'.cell? (ad.add ((i-1)*2))=some (.int .i64 p.f0)) zq7 (fun _ _ _ _ h=>h) ⟨zo hf0 (Below.refl _ _).drew,zo hf1 (Below.refl _ _).drew,zo hp0 (Below.refl _ _).drew,zo hp1 (Below.refl _ _).drew,zo hp2 (Below.refl _ _).drew,zo hp3 (Below.refl _ _).drew,zo zp (Below.refl _ _).drew⟩ (fun hHeld=> ?_)
        iterate 2 (refine zXa (v:= ?_) (a':= ?_) rfl rfl (Or.inl ⟨by rfl,?_⟩) ?_ ?_;rotate_left;(· rintro w' ⟨s0,s1,s2,s3,s4,s5,s6⟩;go_simp;with_reducible rfl);rotate_left;(· show Act.put _ (some _) _=_;simp only [Act.put,List.setIfInBounds_toArray,List.set_cons_zero,List.set_cons_succ,zA,zF];try rfl))
        refine zwa rfl rfl Tryz.func146 zq7 rfl #[.agg #[.int .i64 el.f0,.slice A1 el.f1.length c1_],.agg #[.int .i64 x.f0,.int .i64 x.f1,.int .i64 x.f2,.slice (some ad) x.f3.length cF]] zq19 rfl zq13 ?_
        with_reducible refine (freeOk_c el x true _ (Kd.C_below KE1.out (Below.refl _ _).drew) HFB.out).mono ?_
        rintro e w2 ⟨rfl,hb⟩
        refine ⟨_,rfl,⟨zo (zo hf0 (Below.refl _ _).drew) hb,zo (zo hf1 (Below.refl _ _).drew) hb,zo (zo hp0 (Below.refl _ _).drew) hb,zo (zo hp1 (Below.refl _ _).drew) hb,zo (zo hp2 (Below.refl _ _).drew) hb,zo (zo hp3 (Below.refl _ _).drew) hb,zo (zo zp (Below.refl _ _).drew) hb⟩,(fun hHeld=> ?_)⟩
        refine zqa (a':= ?_) ?_ ?_;rotate_left;(· show Act.put _ (some 51) _=_;simp only [Act.put,List.setIfInBounds_toArray,List.set_cons_zero,List.set_cons_succ,zA,zF];try rfl)
        iterate 6 (refine zra (v:= ?_) (a':= ?_) rfl rfl (Or.inl ⟨by rfl,?_⟩) ?_ ?_;rotate_left;(· intro w';go_simp;with_reducible rfl);rotate_left;(· show Act.put _ (some _) _=_;simp only [Act.put,List.setIfInBounds_toArray,List.set_cons_zero,List.set_cons_succ,zA,zF];try rfl))
        (refine zXa (v:= ?_) (a':= ?_) rfl rfl (Or.inl ⟨by rfl,?_⟩) ?_ ?_;rotate_left;(· rintro w' ⟨s0,s1,s2,s3,s4,s5,s6⟩;go_simp;with_reducible rfl);rotate_left;(· show Act.put _ (some _) _=_;simp only [Act.put,List.setIfInBounds_toArray,List.set_cons_zero,List.set_cons_succ,zA,zF];try rfl))
        iterate 4 (refine zra (v:= ?_) (a':= ?_) rfl rfl (Or.inl ⟨by rfl,?_⟩) ?_ ?_;rotate_left;(· intro w';go_simp;with_reducible rfl);rotate_left;(· show Act.put _ (some _) _=_;simp only [Act.put,List.setIfInBounds_toArray,List.set_cons_zero,List.set_cons_succ,zA,zF];try rfl))
        (refine zXa (v:= ?_) (a':= ?_) rfl rfl (Or.inl ⟨by rfl,?_⟩) ?_ ?_;rotate_left;(· rintro w' ⟨s0,s1,s2,s3,s4,s5,s6⟩;go_simp;with_reducible rfl);rotate_left;(· show Act.put _ (some _) _=_;simp only [Act.put,List.setIfInBounds_toArray,List.set_cons_zero,List.set_cons_succ,zA,zF];try rfl))
        (refine zra (v:= ?_) (a':= ?_) rfl rfl (Or.inl ⟨by rfl,?_⟩) ?_ ?_;rotate_left;(· intro w';go_simp;with_reducible rfl);rotate_left;(· show Act.put _ (some _) _=_;simp only [Act.put,List.setIfInBounds_toArray,List.set_cons_zero,List.set_cons_succ,zA,zF];try rfl))
        (refine zXa (v:= ?_) (a':= ?_) rfl rfl (Or.inl ⟨by rfl,?_⟩) ?_ ?_;rotate_left;(· rintro w' ⟨s0,s1,s2,s3,s4,s5,s6⟩;go_simp;with_reducible rfl);rotate_left;(· show Act.put _ (some _) _=_;simp only [Act.put,List.setIfInBounds_toArray,List.set_cons_zero,List.set_cons_succ,zA,zF];try rfl))
        iterate 3 (refine zra (v:= ?_) (a':= ?_) rfl rfl (Or.inl ⟨by rfl,?_⟩) ?_ ?_;rotate_left;(· intro w';go_simp;with_reducible rfl);rotate_left;(· show Act.put _ (some _) _=_;simp only [Act.put,List.setIfInBounds_toArray,List.set_cons_zero,List.set_cons_succ,zA,zF];try rfl))
        refine zcb ?_
        go_wp2
        go_ret
        exact ⟨rb HBF.out,zk HS.out.bel (zk (Below.refl _ _).drew hb)⟩
      ·have HFR:=zz hFr
       have HFO:=zz hFo
       have hel1:el.f1.length≤40:=hFr.2.2.2
       subst eT
       clear hFr hFo
       rcases hways with hz0|⟨p,hp,h0,hle⟩
       rotate_left
       ·have q1:decide ((0:Int)<(i:Int))=true:=decide_eq_true zq5
        have q2:decide (0<i)=true:=decide_eq_true zq5
        have hs1:IntKind.i64.wrap ((i:Int)-1)=((i-1:Nat):Int):=by rw [zA];unfold wrap64;omega
        have hs2:(0:Int)≤((i-1:Nat):Int):=by omega
        have hs3:((i-1:Nat):Int)<(x.f3.length:Int):=by omega
        obtain ⟨ad2,hA2,zp⟩:=prev_at KR.out hp
        injection hA2 with hA2
        subst hA2
        clear hp
        replace zp:=zo zp HS.out.bel
        have q3:decide (el.f0≤p.f0)=false:=decide_eq_false hle
        refine zTa implMetaOk.ok7_1 (S:=fun w'=>w'.cell? ⟨gF,0,none⟩=some (.int .i64 el.f0)∧w'.cell? ⟨gF,1,none⟩=some (.slice A1 el.f1.length c1_)∧w'.cell? ⟨w.heap.size,0,none⟩=some (.int .i64 x.f0)∧w'.cell? ⟨w.heap.size,1,none⟩=some (.int .i64 x.f1)∧w'.cell? ⟨w.heap.size,2,none⟩=some (.int .i64 x.f2)∧w'.cell? ⟨w.heap.size,3,none⟩=some (.slice (some ad) x.f3.length cF)∧w'.cell? (ad.add ((i-1)*2))=some (.int .i64 p.f0)) zq7 (fun _ _ _ _ h=>h) ⟨zo hf0 (Below.refl _ _).drew,zo hf1 (Below.refl _ _).drew,zo hp0 (Below.refl _ _).drew,zo hp1 (Below.refl _ _).drew,zo hp2 (Below.refl _ _).drew,zo hp3 (Below.refl _ _).drew,zo zp (Below.refl _ _).drew⟩ (fun hHeld=> ?_)
        iterate 2 (refine zXa (v:= ?_) (a':= ?_) rfl rfl (Or.inl ⟨by rfl,?_⟩) ?_ ?_;rotate_left;(· rintro w' ⟨s0,s1,s2,s3,s4,s5,s6⟩;go_simp;with_reducible rfl);rotate_left;(· show Act.put _ (some _) _=_;simp only [Act.put,List.setIfInBounds_toArray,List.set_cons_zero,List.set_cons_succ,zA,zF];try rfl))
        refine zwa rfl rfl Tryz.func146 zq7 rfl #[.agg #[.int .i64 el.f0,.slice A1 el.f1.length c1_],.agg #[.int .i64 x.f0,.int .i64 x.f1,.int .i64 x.f2,.slice (some ad) x.f3.length cF]] zq19 rfl zq13 ?_
        with_reducible refine (freeOk_c el x true _ (Kd.C_below KE1.out (Below.refl _ _).drew) HFB.out).mono ?_
        rintro e w2 ⟨rfl,hb⟩
        refine ⟨_,rfl,⟨zo (zo hf0 (Below.refl _ _).drew) hb,zo (zo hf1 (Below.refl _ _).drew) hb,zo (zo hp0 (Below.refl _ _).drew) hb,zo (zo hp1 (Below.refl _ _).drew) hb,zo (zo hp2 (Below.refl _ _).drew) hb,zo (zo hp3 (Below.refl _ _).drew) hb,zo (zo zp (Below.refl _ _).drew) hb⟩,(fun hHeld=> ?_)⟩
        refine zqa (a':= ?_) ?_ ?_;rotate_left;(· show Act.put _ (some 51) _=_;simp only [Act.put,List.setIfInBounds_toArray,List.set_cons_zero,List.set_cons_succ,zA,zF];try rfl)
        iterate 6 (refine zra (v:= ?_) (a':= ?_) rfl rfl (Or.inl ⟨by rfl,?_⟩) ?_ ?_;rotate_left;(· intro w';go_simp;with_reducible rfl);rotate_left;(· show Act.put _ (some _) _=_;simp only [Act.put,List.setIfInBounds_toArray,List.set_cons_zero,List.set_cons_succ,zA,zF];try rfl))
        (refine zXa (v:= ?_) (a':= ?_) rfl rfl (Or.inl ⟨by rfl,?_⟩) ?_ ?_;rotate_left;(· rintro w' ⟨s0,s1,s2,s3,s4,s5,s6⟩;go_simp;with_reducible rfl);rotate_left;(· show Act.put _ (some _) _=_;simp only [Act.put,List.setIfInBounds_toArray,List.set_cons_zero,List.set_cons_succ,zA,zF];try rfl))
        iterate 4 (refine zra (v:= ?_) (a':= ?_) rfl rfl (Or.inl ⟨by rfl,?_⟩) ?_ ?_;rotate_left;(· intro w';go_simp;with_reducible rfl);rotate_left;(· show Act.put _ (some _) _=_;simp only [Act.put,List.setIfInBounds_toArray,List.set_cons_zero,List.set_cons_succ,zA,zF];try rfl))
        (refine zXa (v:= ?_) (a':= ?_) rfl rfl (Or.inl ⟨by rfl,?_⟩) ?_ ?_;rotate_left;(· rintro w' ⟨s0,s1,s2,s3,s4,s5,s6⟩;go_simp;with_reducible rfl);rotate_left;(· show Act.put _ (some _) _=_;simp only [Act.put,List.setIfInBounds_toArray,List.set_cons_zero,List.set_cons_succ,zA,zF];try rfl))
        (refine zra (v:= ?_) (a':= ?_) rfl rfl (Or.inl ⟨by rfl,?_⟩) ?_ ?_;rotate_left;(· intro w';go_simp;with_reducible rfl);rotate_left;(· show Act.put _ (some _) _=_;simp only [Act.put,List.setIfInBounds_toArray,List.set_cons_zero,List.set_cons_succ,zA,zF];try rfl))
        (refine zXa (v:= ?_) (a':= ?_) rfl rfl (Or.inl ⟨by rfl,?_⟩) ?_ ?_;rotate_left;(· rintro w' ⟨s0,s1,s2,s3,s4,s5,s6⟩;go_simp;with_reducible rfl);rotate_left;(· show Act.put _ (some _) _=_;simp only [Act.put,List.setIfInBounds_toArray,List.set_cons_zero,List.set_cons_succ,zA,zF];try rfl))
        iterate 3 (refine zra (v:= ?_) (a':= ?_) rfl rfl (Or.inl ⟨by rfl,?_⟩) ?_ ?_;rotate_left;(· intro w';go_simp;with_reducible rfl);rotate_left;(· show Act.put _ (some _) _=_;simp only [Act.put,List.setIfInBounds_toArray,List.set_cons_zero,List.set_cons_succ,zA,zF];try rfl))
        refine zcb ?_
        clear zp
        clear hHeld
        have HB2:=zz (zk (Below.refl _ _).drew hb)
        clear hp0 hp1 hp2 hp3 hf0 hf1 hb
        replace HS:=zz (HS.out.step HB2.out)
        replace BF:=zz (zu BF.out HB2.out)
        clear HB2 KE1
        have hf1:w2.cell? ⟨gF,1,none⟩=some (.slice A1 el.f1.length c1_):=(ze BF.out 1).trans rfl
        go_wp2_with fail
        clear hf1
        go_loopg [3,72] (el.f1.length+1) (fun kq v3 v6 w'=>∃(k:Nat) (v:Value),v3=v∧v6= .int .i64 (k:Int)∧Z0 (kq+k=el.f1.length+1)∧Z0 (k≤el.f1.length)∧Z0 (∀(j:Nat) (p:Int),j<k→el.f1[j]?=some p→PgOk x (zja x i) el.f1 j p)∧Z0 (SeenAt w w' [.int .i64 x.f0,.int .i64 x.f1,.int .i64 x.f2,.slice (some ad) x.f3.length cF] (zja x i++el.f1.take k) v)∧Z0 (w'.heap[gF]?=some (.cells ([.int .i64 el.f0,.slice A1 el.f1.length c1_]:List Value).toArray 112 (0,0)))∧Z0 (∀q,v.ownBlock=some q→q≠gF))
        case atStart=>exact ⟨0,_,rfl,rfl,⟨by omega⟩,⟨Nat.zero_le _⟩,⟨fun j p h=>absurd h (Nat.not_lt_zero _)⟩,⟨by rw [List.take_zero,List.append_nil];exact HS.out⟩,BF,⟨fun q hq=>Nat.ne_of_lt (OW.out q hq)⟩⟩
        case round=>
         clear HS BF OW
         obtain ⟨k,v,rfl,rfl,HQ2,HI2,HP2,HS,BF,OW⟩:=hrel
         obtain ⟨sn,hsn⟩:∃sn,sn=zja x i++el.f1.take k:=⟨_,rfl⟩
         have hsl2:sn.length≤2000000:=by
          have h1:=seen_len2 (fun j f hj hf=>(HP.out j f hj hf).1.2.2.2) i (Nat.le_refl _) HI.out
          have h2:=List.length_take_le k el.f1
          have h3:=HI.out
          have h4:=HI2.out
          rw [hsn,List.length_append]
          omega
         rw [←hsn] at HS
         have HSN:=zz hsn
         clear hsn
         obtain ⟨Av,cv,rfl⟩:=Kd.R_slice HS.out.row
         by_cases hk:k<el.f1.length
         ·have d1:decide ((k:Int)<(el.f1.length:Int))=true:=decide_eq_true zq5
          have d0:decide ((0:Int)≤(k:Int))=true:=decide_eq_true zq5
          have d2:((k:Int)<(el.f1.length:Int))=True:=eq_true zq5
          have d3:((0:Int)≤(k:Int))=True:=eq_true zq5
          cases gk with
          |zero=>exact absurd HQ2.out zq5
          |succ k2=>
           obtain ⟨ap,hAp,pc⟩:=C_at KE.out hk
           subst hAp
           obtain ⟨p,hp⟩:∃p,p=el.f1[k]:=⟨_,rfl⟩
           rw [←hp] at pc
           have HPK:=zz (show el.f1[k]?=some p from by rw [hp];exact List.getElem?_eq_getElem hk)
           clear hp
           replace pc:=zo pc HS.out.bel
           have KS:=zz (Kd.R_reads' HS.out.row).2.2
           by_cases hin:p∈sn
           ·have eS:hasB sn p=true:=decide_eq_true hin
            have HBF:=zz (bfalse HB.out (fun hm=>((hm.2 i el HE.out).2 k p HPK.out).2.2 (by rw [←HSN.out];exact hin)))
            clear hin
            go_wp2_with (((with_reducible refine (hasI _ _ _ _ _ KS.out hsl2).mono ?_);rintro e w1 ⟨rfl,rfl⟩;rw [eS]))
            go_ret
            exact ⟨rb HBF.out,HS.out.bel⟩
           ·have eS:hasB sn p=false:=decide_eq_false hin
            have HPG:=zz (show PgOk x (zja x i) el.f1 k p from ⟨(HFO.out.1 k p HPK.out).1,(HFO.out.1 k p HPK.out).2,by rw [←HSN.out];exact hin⟩)
            clear hin
            go_wp2_with (first|((with_reducible refine (hasI _ _ _ _ _ KS.out hsl2).mono ?_);rintro e w1 ⟨rfl,rfl⟩;rw [eS])|((with_reducible refine zQ (b:= .append) (xs:= #[.tmp 79,.tmp 81]) rfl ?_);at_builtin;refine seen_app rfl (.tmp 79) (.tmp 81) rfl rfl rfl HS.out BF.out OW.out hsl2 ?_;intro v1 w1 HS1 BF1 OW1))
            go_roundg k2
            case measure=>omega
            case rel=>exact ⟨k+1,_,rfl,by go_num,⟨by have:=HQ2.out;omega⟩,⟨by omega⟩,⟨fun j p2 hj hf=>by
             rcases Nat.lt_or_ge j k with h2|h2
             ·exact HP2.out j p2 h2 hf
             ·obtain rfl:j=k:=by omega
              have:=HPK.out.symm.trans hf
              injection this with this
              subst this
              exact HPG.out⟩,⟨by
              obtain ⟨hkl,hkv⟩:=List.getElem?_eq_some_iff.1 HPK.out
              rw [List.take_succ_eq_append_getElem hkl,hkv,←List.append_assoc,←HSN.out]
              exact HS1.out⟩,BF1,OW1⟩
         ·have d1:decide ((k:Int)<(el.f1.length:Int))=false:=decide_eq_false zq5
          have hk2:k=el.f1.length:=by have:=HI2.out;omega
          have hsn:sn=zja x (i+1):=by rw [HSN.out,hk2,List.take_length,seen_succ HE.out]
          have HSN2:=zz hsn
          have HK2:=zz hk2
          clear hsn hk2
          go_wp2
          go_roundg k1
          case measure=>omega
          case rel=>exact ⟨i+1,_,rfl,by go_num,⟨by have:=HQ.out;omega⟩,⟨by omega⟩,⟨fun j f hj hf=>by
           rcases Nat.lt_or_ge j i with h2|h2
           ·exact HP.out j f h2 hf
           ·obtain rfl:j=i:=by omega
            have:=HE.out.symm.trans hf
            injection this with this
            subst this
            exact ⟨HFR.out,fun k p hp=>HP2.out k p (by rw [HK2.out];exact (List.getElem?_eq_some_iff.1 hp).1) hp⟩⟩,⟨by rw [←HSN2.out];exact HS.out⟩⟩
       ·have q1:decide ((0:Int)<(i:Int))=false:=decide_eq_false zq5
        have q2:decide (0<i)=false:=decide_eq_false zq5
        clear hz0
        refine zTa implMetaOk.ok7_0 (S:=fun w'=>w'.cell? ⟨gF,0,none⟩=some (.int .i64 el.f0)∧w'.cell? ⟨gF,1,none⟩=some (.slice A1 el.f1.length c1_)∧w'.cell? ⟨w.heap.size,0,none⟩=some (.int .i64 x.f0)∧w'.cell? ⟨w.heap.size,1,none⟩=some (.int .i64 x.f1)∧w'.cell? ⟨w.heap.size,2,none⟩=some (.int .i64 x.f2)∧w'.cell? ⟨w.heap.size,3,none⟩=some (.slice (some ad) x.f3.length cF)) zq7 (fun _ _ _ _ h=>h) ⟨zo hf0 (Below.refl _ _).drew,zo hf1 (Below.refl _ _).drew,zo hp0 (Below.refl _ _).drew,zo hp1 (Below.refl _ _).drew,zo hp2 (Below.refl _ _).drew,zo hp3 (Below.refl _ _).drew⟩ (fun hHeld=> ?_)
        iterate 2 (refine zXa (v:= ?_) (a':= ?_) rfl rfl (Or.inl ⟨by rfl,?_⟩) ?_ ?_;rotate_left;(· rintro w' ⟨s0,s1,s2,s3,s4,s5⟩;go_simp;with_reducible rfl);rotate_left;(· show Act.put _ (some _) _=_;simp only [Act.put,List.setIfInBounds_toArray,List.set_cons_zero,List.set_cons_succ,zA,zF];try rfl))
        refine zwa rfl rfl Tryz.func146 zq7 rfl #[.agg #[.int .i64 el.f0,.slice A1 el.f1.length c1_],.agg #[.int .i64 x.f0,.int .i64 x.f1,.int .i64 x.f2,.slice (some ad) x.f3.length cF]] zq19 rfl zq13 ?_
        with_reducible refine (freeOk_c el x true _ (Kd.C_below KE1.out (Below.refl _ _).drew) HFB.out).mono ?_
        rintro e w2 ⟨rfl,hb⟩
        refine ⟨_,rfl,⟨zo (zo hf0 (Below.refl _ _).drew) hb,zo (zo hf1 (Below.refl _ _).drew) hb,zo (zo hp0 (Below.refl _ _).drew) hb,zo (zo hp1 (Below.refl _ _).drew) hb,zo (zo hp2 (Below.refl _ _).drew) hb,zo (zo hp3 (Below.refl _ _).drew) hb⟩,(fun hHeld=> ?_)⟩
        refine zqa (a':= ?_) ?_ ?_;rotate_left;(· show Act.put _ (some 51) _=_;simp only [Act.put,List.setIfInBounds_toArray,List.set_cons_zero,List.set_cons_succ,zA,zF];try rfl)
        iterate 5 (refine zra (v:= ?_) (a':= ?_) rfl rfl (Or.inl ⟨by rfl,?_⟩) ?_ ?_;rotate_left;(· intro w';go_simp;with_reducible rfl);rotate_left;(· show Act.put _ (some _) _=_;simp only [Act.put,List.setIfInBounds_toArray,List.set_cons_zero,List.set_cons_succ,zA,zF];try rfl))
        iterate 10 (refine zra (v:=undef) (a':= ?_) rfl rfl (Or.inr ⟨by rfl,rfl⟩) ?_ ?_;rotate_left;(· show Act.put _ (some _) _=_;simp only [Act.put,List.setIfInBounds_toArray,List.set_cons_zero,List.set_cons_succ,zA,zF];try rfl))
        iterate 2 (refine zra (v:= ?_) (a':= ?_) rfl rfl (Or.inl ⟨by rfl,?_⟩) ?_ ?_;rotate_left;(· intro w';go_simp;with_reducible rfl);rotate_left;(· show Act.put _ (some _) _=_;simp only [Act.put,List.setIfInBounds_toArray,List.set_cons_zero,List.set_cons_succ,zA,zF];try rfl))
        refine zcb ?_
        clear hHeld
        have HB2:=zz (zk (Below.refl _ _).drew hb)
        clear hp0 hp1 hp2 hp3 hf0 hf1 hb
        replace HS:=zz (HS.out.step HB2.out)
        replace BF:=zz (zu BF.out HB2.out)
        clear HB2 KE1
        have hf1:w2.cell? ⟨gF,1,none⟩=some (.slice A1 el.f1.length c1_):=(ze BF.out 1).trans rfl
        go_wp2_with fail
        clear hf1
        go_loopg [3,72] (el.f1.length+1) (fun kq v3 v6 w'=>∃(k:Nat) (v:Value),v3=v∧v6= .int .i64 (k:Int)∧Z0 (kq+k=el.f1.length+1)∧Z0 (k≤el.f1.length)∧Z0 (∀(j:Nat) (p:Int),j<k→el.f1[j]?=some p→PgOk x (zja x i) el.f1 j p)∧Z0 (SeenAt w w' [.int .i64 x.f0,.int .i64 x.f1,.int .i64 x.f2,.slice (some ad) x.f3.length cF] (zja x i++el.f1.take k) v)∧Z0 (w'.heap[gF]?=some (.cells ([.int .i64 el.f0,.slice A1 el.f1.length c1_]:List Value).toArray 112 (0,0)))∧Z0 (∀q,v.ownBlock=some q→q≠gF))
        case atStart=>exact ⟨0,_,rfl,rfl,⟨by omega⟩,⟨Nat.zero_le _⟩,⟨fun j p h=>absurd h (Nat.not_lt_zero _)⟩,⟨by rw [List.take_zero,List.append_nil];exact HS.out⟩,BF,⟨fun q hq=>Nat.ne_of_lt (OW.out q hq)⟩⟩
        case round=>
         clear HS BF OW
         obtain ⟨k,v,rfl,rfl,HQ2,HI2,HP2,HS,BF,OW⟩:=hrel
         obtain ⟨sn,hsn⟩:∃sn,sn=zja x i++el.f1.take k:=⟨_,rfl⟩
         have hsl2:sn.length≤2000000:=by
          have h1:=seen_len2 (fun j f hj hf=>(HP.out j f hj hf).1.2.2.2) i (Nat.le_refl _) HI.out
          have h2:=List.length_take_le k el.f1
          have h3:=HI.out
          have h4:=HI2.out
          rw [hsn,List.length_append]
          omega
         rw [←hsn] at HS
         have HSN:=zz hsn
         clear hsn
         obtain ⟨Av,cv,rfl⟩:=Kd.R_slice HS.out.row
         by_cases hk:k<el.f1.length
         ·have d1:decide ((k:Int)<(el.f1.length:Int))=true:=decide_eq_true zq5
          have d0:decide ((0:Int)≤(k:Int))=true:=decide_eq_true zq5
          have d2:((k:Int)<(el.f1.length:Int))=True:=eq_true zq5
          have d3:((0:Int)≤(k:Int))=True:=eq_true zq5
          cases gk with
          |zero=>exact absurd HQ2.out zq5
          |succ k2=>
           obtain ⟨ap,hAp,pc⟩:=C_at KE.out hk
           subst hAp
           obtain ⟨p,hp⟩:∃p,p=el.f1[k]:=⟨_,rfl⟩
           rw [←hp] at pc
           have HPK:=zz (show el.f1[k]?=some p from by rw [hp];exact List.getElem?_eq_getElem hk)
           clear hp
           replace pc:=zo pc HS.out.bel
           have KS:=zz (Kd.R_reads' HS.out.row).2.2
           by_cases hin:p∈sn
           ·have eS:hasB sn p=true:=decide_eq_true hin
            have HBF:=zz (bfalse HB.out (fun hm=>((hm.2 i el HE.out).2 k p HPK.out).2.2 (by rw [←HSN.out];exact hin)))
            clear hin
            go_wp2_with (((with_reducible refine (hasI _ _ _ _ _ KS.out hsl2).mono ?_);rintro e w1 ⟨rfl,rfl⟩;rw [eS]))
            go_ret
            exact ⟨rb HBF.out,HS.out.bel⟩
           ·have eS:hasB sn p=false:=decide_eq_false hin
            have HPG:=zz (show PgOk x (zja x i) el.f1 k p from ⟨(HFO.out.1 k p HPK.out).1,(HFO.out.1 k p HPK.out).2,by rw [←HSN.out];exact hin⟩)
            clear hin
            go_wp2_with (first|((with_reducible refine (hasI _ _ _ _ _ KS.out hsl2).mono ?_);rintro e w1 ⟨rfl,rfl⟩;rw [eS])|((with_reducible refine zQ (b:= .append) (xs:= #[.tmp 79,.tmp 81]) rfl ?_);at_builtin;refine seen_app rfl (.tmp 79) (.tmp 81) rfl rfl rfl HS.out BF.out OW.out hsl2 ?_;intro v1 w1 HS1 BF1 OW1))
            go_roundg k2
            case measure=>omega
            case rel=>exact ⟨k+1,_,rfl,by go_num,⟨by have:=HQ2.out;omega⟩,⟨by omega⟩,⟨fun j p2 hj hf=>by
             rcases Nat.lt_or_ge j k with h2|h2
             ·exact HP2.out j p2 h2 hf
             ·obtain rfl:j=k:=by omega
              have:=HPK.out.symm.trans hf
              injection this with this
              subst this
              exact HPG.out⟩,⟨by
              obtain ⟨hkl,hkv⟩:=List.getElem?_eq_some_iff.1 HPK.out
              rw [List.take_succ_eq_append_getElem hkl,hkv,←List.append_assoc,←HSN.out]
              exact HS1.out⟩,BF1,OW1⟩
         ·have d1:decide ((k:Int)<(el.f1.length:Int))=false:=decide_eq_false zq5
          have hk2:k=el.f1.length:=by have:=HI2.out;omega
          have hsn:sn=zja x (i+1):=by rw [HSN.out,hk2,List.take_length,seen_succ HE.out]
          have HSN2:=zz hsn
          have HK2:=zz hk2
          clear hsn hk2
          go_wp2
          go_roundg k1
          case measure=>omega
          case rel=>exact ⟨i+1,_,rfl,by go_num,⟨by have:=HQ.out;omega⟩,⟨by omega⟩,⟨fun j f hj hf=>by
           rcases Nat.lt_or_ge j i with h2|h2
           ·exact HP.out j f h2 hf
           ·obtain rfl:j=i:=by omega
            have:=HE.out.symm.trans hf
            injection this with this
            subst this
            exact ⟨HFR.out,fun k p hp=>HP2.out k p (by rw [HK2.out];exact (List.getElem?_eq_some_iff.1 hp).1) hp⟩⟩,⟨by rw [←HSN2.out];exact HS.out⟩⟩
    ·have c1:decide ((i:Int)<(x.f3.length:Int))=false:=decide_eq_false zq5
     have hbt:true=b:=(HB.out.2 ⟨HH.out,fun j f hj=>HP.out j f (by have:=(List.getElem?_eq_some_iff.1 hj).1;have:=HI.out;omega) hj⟩).symm
     have HBT:=zz hbt
     clear hbt
     go_wp2
     go_ret
     exact ⟨rb HBT.out,HS.out.bel⟩
 ·have HBF:=zz (bfalse HB.out (fun h=>hh h.1))
  rcases mh_ways x hh with e0|⟨e0,e2⟩|⟨⟨e0,e2,h2a,h2b⟩,⟨e1,e1',e1''⟩|⟨⟨e1,e1'⟩,bl⟩|⟨⟨e1,e1',e1''⟩,bl⟩⟩
  all_goals
   clear hh
   go_enter Tryz.func123,Tryz.ntmps123
   go_wp2_with (((with_reducible refine (inI _ _ _ _).mono ?_);rintro e w1 ⟨rfl,rfl⟩))
   go_ret
   exact ⟨rb HBF.out,hbl.out⟩
def spec_l02Four.f (a0:Int):Option (ByteArray):=some (strOfNums (([(a0/16777216)%256,(a0/65536)%256,(a0/256)%256,(a0)%256]:List Int)))
theorem spec_l02Four.calls (a0:Int) (r:ByteArray) (w:World) (h:spec_l02Four.f a0=some r):
  Calls Tryz.prog 115 #[.int .u32 a0] w fun e w'=>e= .returned (.string r)∧Below w.heap.size w w':=by
 have HB:=zz (Below.refl w.heap.size w)
 have H:(some (strOfNums (([(a0/16777216)%256,(a0/65536)%256,(a0/256)%256,(a0)%256]:List Int))))=some r:=h
 clear h
 obtain ⟨y135,hy135⟩:∃y_:List Int,y_=(([(a0/16777216)%256,(a0/65536)%256,(a0/256)%256,(a0)%256]:List Int)):=⟨_,rfl⟩
 replace H:(some (strOfNums y135))=some r:=by first|(rw [hy135];with_reducible exact H)|(have H2_:=(Option.bind_some _ _).symm.trans H;rw [hy135];with_reducible exact H2_)|(have H2_:=(Option.bind_some _ _).symm.trans H;with_reducible exact H2_)|with_reducible exact H|(rw [hy135];exact H)|exact H
 have Ny135:=zz hy135
 clear hy135
 obtain rfl:=Option.some.inj H
 go_enter Tryz.func115,Tryz.ntmps115
 go_wp2_with (first|((with_reducible refine zv (N:=14) rfl ?_);refine Kd.R_lit (Kd.int .u8) _ 5 ?hg (N:=14) ?hd (xs:=([(a0/16777216)%256,(a0/65536)%256,(a0/256)%256,(a0)%256]:List Int)) (inner:=[.int .u8 ((a0/16777216)%256),.int .u8 ((a0/65536)%256),.int .u8 ((a0/256)%256),.int .u8 ((a0)%256)]) (ok:=fun _=>True) (okp:=fun _=>True) ?hr ?hp (fun _ hk=>hk) trivial (Below.refl _ _) (Nat.le_refl _) zq15 ?_;(case hd=>rfl);(case hg=>rfl);(case hr=>first|(go_simp;done)|(go_simp;rfl));(case hp=>exact (Reps.one (show Kd.M (Kd.int .u8) _ _ _ ((a0/16777216)%256) [.int .u8 ((a0/16777216)%256)] from rfl) (Reps.one (show Kd.M (Kd.int .u8) _ _ _ ((a0/65536)%256) [.int .u8 ((a0/65536)%256)] from rfl) (Reps.one (show Kd.M (Kd.int .u8) _ _ _ ((a0/256)%256) [.int .u8 ((a0/256)%256)] from rfl) (Reps.one (show Kd.M (Kd.int .u8) _ _ _ ((a0)%256) [.int .u8 ((a0)%256)] from rfl) (Reps.none _ _))))));intro v136 w2 ho3 hb hg_ hnew_;clear hg_ hnew_;(first|rw [←Ny135.out] at ho3|(simp only [Int.reduceToNat] at ho3;rw [←Ny135.out] at ho3));have n0_:=zz (Kd.R_lower ho3 (zi zq1));have n1_:=zz (zk zq1 hb);clear HB;have HO137:=n0_;have HB:=n1_;clear n0_ n1_;clear hb ho3;have hcv4:=zAb (P:=Tryz.prog) Tryz.underlying141 Tryz.underlying5 Tryz.underlying9 (Kd.own_of_R HO137.out)))
 go_ret
 exact ⟨by first|rfl|(simp [zx,zw]<;>rfl)|(simp [*,zx,zw]<;>rfl),by repeat (first|(with_reducible first|exact HB.out|apply zg|apply zf|apply zm)|exact HB.out)⟩
mutual
def spec_SumMore.l0:Nat→Int→ByteArray→Int→Option (Int)
 |0,_,_,_=>none
 |k+1,x0,x1,x5=>if x5<(x1.size:Int) then (if 0≤x5 then (spec_SumMore.l1 k (Go.bits .xor .u32 x0 ((bt x1 x5)%4294967296)) x1 x5 0) else (none)) else (some x0)
def spec_SumMore.l1:Nat→Int→ByteArray→Int→Int→Option (Int)
 |0,_,_,_,_=>none
 |k+1,x0,x1,x5,x6=>if x6<8 then (if (Int.tmod x0 2)=1 then (spec_SumMore.l1 k (Go.bits .xor .u32 ((Int.tdiv x0 2)%4294967296) 3558460437) x1 x5 (wrap64 (x6+1))) else (spec_SumMore.l1 k ((Int.tdiv x0 2)%4294967296) x1 x5 (wrap64 (x6+1)))) else (spec_SumMore.l0 k x0 x1 (wrap64 (x5+1)))
end
def spec_SumMore.f (k:Nat) (a0:Int) (a1:ByteArray):Option (Int):=spec_SumMore.l0 k a0 a1 0
theorem spec_SumMore.mono_l:∀k,(∀y0 y1 y2,LeO (spec_SumMore.l0 k y0 y1 y2) (spec_SumMore.l0 (k+1) y0 y1 y2))∧(∀y0 y1 y2 y3,LeO (spec_SumMore.l1 k y0 y1 y2 y3) (spec_SumMore.l1 (k+1) y0 y1 y2 y3))
 |0=>⟨fun _ _ _ r h=>by simp [spec_SumMore.l0] at h,fun _ _ _ _ r h=>by simp [spec_SumMore.l1] at h⟩
 |k+1=>by
  obtain ⟨ih0,ih1⟩:=spec_SumMore.mono_l k
  refine ⟨?_,?_⟩
  ·intro y0 y1 y2
   unfold spec_SumMore.l0
   repeat' first
   |(with_reducible exact ih0 _ _ _)
   |(with_reducible exact ih1 _ _ _ _)
   |(with_reducible exact LeO.refl _)
   |(with_reducible exact LeO.none _)
   |(with_reducible refine LeO.ite ?_ ?_)
   |(with_reducible refine LeO.bind ?_ (fun _=> ?_))
   |exact ih0 _ _ _
   |exact ih1 _ _ _ _
  ·intro y0 y1 y2 y3
   unfold spec_SumMore.l1
   repeat' first
   |(with_reducible exact ih0 _ _ _)
   |(with_reducible exact ih1 _ _ _ _)
   |(with_reducible exact LeO.refl _)
   |(with_reducible exact LeO.none _)
   |(with_reducible refine LeO.ite ?_ ?_)
   |(with_reducible refine LeO.bind ?_ (fun _=> ?_))
   |exact ih0 _ _ _
   |exact ih1 _ _ _ _
theorem spec_SumMore.mono:∀a0 a1 k,LeO (spec_SumMore.f k a0 a1) (spec_SumMore.f (k+1) a0 a1):=by
 intro a0 a1 k
 obtain ⟨ih0,ih1⟩:=spec_SumMore.mono_l k
 unfold spec_SumMore.f
 repeat' first
   |(with_reducible exact ih0 _ _ _)
   |(with_reducible exact ih1 _ _ _ _)
   |(with_reducible exact LeO.refl _)
   |(with_reducible exact LeO.none _)
   |(with_reducible refine LeO.ite ?_ ?_)
   |(with_reducible refine LeO.bind ?_ (fun _=> ?_))
   |exact ih0 _ _ _
   |exact ih1 _ _ _ _
theorem spec_SumMore.calls (k:Nat) (a0:Int) (a1:ByteArray) (r:Int) (w:World) (h:spec_SumMore.f k a0 a1=some r):
  Calls Tryz.prog 134 #[.int .u32 a0,.string a1] w fun e w'=>e= .returned (.int .u32 r)∧Drawn0 w w':=by
 have H:(spec_SumMore.l0 k a0 a1 0)=some r:=h
 clear h
 have H':=zz H
 clear H
 go_enter Tryz.func134,Tryz.ntmps134
 go_wp2
 go_loopg [0,5] k (fun kq v0 v5 w'=>∃(x0_1:Int) (x5_1:Int),v0= .int .u32 x0_1∧v5= .int .i64 x5_1∧Z0 (spec_SumMore.l0 kq x0_1 a1 x5_1=some r)∧Z0 (kq≤k)∧Drawn0 w w')
 case atStart=>exact ⟨(a0),(0),zq12,zq12,H',⟨Nat.le_refl _⟩,by repeat (first|exact Drawn0.refl _|apply Drawn0.step)⟩
 case round=>
  clear H'
  obtain ⟨x0_1,x5_1,rfl,rfl,HA,HK1,⟨m1,rfl⟩⟩:=hrel
  cases gk with
  |zero=>exact absurd HA.out (by simp [spec_SumMore.l0])
  |succ k1=>
   have H:=HA.out
   clear HA
   simp only [spec_SumMore.l0] at H
   by_cases c3:x5_1<(a1.size:Int)
   ·rw [if_pos c3] at H
    have c3b0:decide (x5_1<(a1.size:Int))=true:=decide_eq_true c3
    clear c3
    by_cases c4:0≤x5_1
    ·rw [if_pos c4] at H
     have c4b0:decide (0≤x5_1)=true:=decide_eq_true c4
     clear c4
     have H':=zz H
     clear H
     have p5:0≤(x5_1:Int):=of_decide_eq_true zq11
     have q5:x5_1<(a1.size:Int):=of_decide_eq_true zq11
     have hx5:=bt_at a1 x5_1
     replace p5:=eq_true p5
     replace q5:=eq_true q5
     go_wp2
     go_loopg [0,6] k1 (fun kq v0 v6 w'=>∃(x0_2:Int) (x6_2:Int),v0= .int .u32 x0_2∧v6= .int .i64 x6_2∧Z0 (spec_SumMore.l1 kq x0_2 a1 x5_1 x6_2=some r)∧Z0 (kq≤k1)∧Drawn0 w w')
     case atStart=>exact ⟨(Go.bits .xor .u32 x0_1 ((bt a1 x5_1)%4294967296)),(0),zq12,zq12,H',⟨Nat.le_refl _⟩,by repeat (first|exact Drawn0.refl _|apply Drawn0.step)⟩
     case round=>
      clear H'
      try clear c3
      try clear c3b0
      try clear c4
      try clear c4b0
      try clear p5
      try clear q5
      try clear hx5
      try clear p5
      try clear q5
      obtain ⟨x0_2,x6_2,rfl,rfl,HA,HK2,⟨m2,rfl⟩⟩:=hrel
      cases gk with
      |zero=>exact absurd HA.out (by simp [spec_SumMore.l1])
      |succ k2=>
       have H:=HA.out
       clear HA
       simp only [spec_SumMore.l1] at H
       by_cases c6:x6_2<8
       ·rw [if_pos c6] at H
        have c6b0:decide (x6_2<8)=true:=decide_eq_true c6
        clear c6
        by_cases c7:(Int.tmod x0_2 2)=1
        ·rw [if_pos c7] at H
         have c7b0:((Int.tmod x0_2 2)==1)=true:=beq_iff_eq.mpr c7
         have c7b1:((Int.tmod x0_2 2) !=1)=false:=bne_eq_false_iff_eq.mpr c7
         clear c7
         have H':=zz H
         clear H
         go_wp2
         go_roundg k2
         case measure=>have:=HK1.out;have:=HK2.out;omega
         case rel=>exact ⟨(Go.bits .xor .u32 ((Int.tdiv x0_2 2)%4294967296) 3558460437),(wrap64 (x6_2+1)),zq12,zq12,H',⟨by have:=HK1.out;have:=HK2.out;omega⟩,by repeat (first|exact Drawn0.refl _|apply Drawn0.step)⟩
        ·rw [if_neg c7] at H
         have c7b0:((Int.tmod x0_2 2)==1)=false:=beq_eq_false_iff_ne.mpr c7
         have c7b1:((Int.tmod x0_2 2) !=1)=true:=bne_iff_ne.mpr c7
         have H':=zz H
         clear H
         go_wp2
         go_roundg k2
         case measure=>have:=HK1.out;have:=HK2.out;omega
         case rel=>exact ⟨((Int.tdiv x0_2 2)%4294967296),(wrap64 (x6_2+1)),zq12,zq12,H',⟨by have:=HK1.out;have:=HK2.out;omega⟩,by repeat (first|exact Drawn0.refl _|apply Drawn0.step)⟩
       ·rw [if_neg c6] at H
        have c6b0:decide (x6_2<8)=false:=decide_eq_false c6
        clear c6
        have H':=zz H
        clear H
        go_wp2
        go_roundg k2
        case measure=>have:=HK1.out;have:=HK2.out;omega
        case rel=>exact ⟨(x0_2),(wrap64 (x5_1+1)),zq12,zq12,H',⟨by have:=HK1.out;have:=HK2.out;omega⟩,by repeat (first|exact Drawn0.refl _|apply Drawn0.step)⟩
    ·rw [if_neg c4] at H
     exact absurd H zq15
   ·rw [if_neg c3] at H
    have c3b0:decide (x5_1<(a1.size:Int))=false:=decide_eq_false c3
    clear c3
    obtain rfl:=Option.some.inj H
    go_wp2
    go_ret
    exact ⟨by first|rfl|(simp;done)|(simp [*];done),by repeat (first|exact Drawn0.refl _|apply Drawn0.step)⟩
def spec_SumOf.f (k:Nat) (a0:ByteArray):Option (Int):=(spec_SumMore.f k 4294967295 a0).bind fun t138=>(some t138)
theorem spec_SumOf.mono:∀a0 k,LeO (spec_SumOf.f k a0) (spec_SumOf.f (k+1) a0):=by
 intro a0 k
 unfold spec_SumOf.f
 repeat' first
   |(with_reducible exact spec_SumMore.mono _ _ _)
   |(with_reducible exact LeO.refl _)
   |(with_reducible exact LeO.none _)
   |(with_reducible refine LeO.ite ?_ ?_)
   |(with_reducible refine LeO.bind ?_ (fun _=> ?_))
   |exact spec_SumMore.mono _ _ _
theorem spec_SumOf.calls (k:Nat) (a0:ByteArray) (r:Int) (w:World) (h:spec_SumOf.f k a0=some r):
  Calls Tryz.prog 116 #[.string a0] w fun e w'=>e= .returned (.int .u32 r)∧Drawn0 w w':=by
 have H:((spec_SumMore.f k 4294967295 a0).bind fun t138=>(some t138))=some r:=h
 clear h
 replace H:=Option.bind_eq_some_iff.mp H
 obtain ⟨t138,A20,H⟩:=H
 replace H:(some t138)=some r:=H
 have A2:=zz A20
 clear A20
 obtain rfl:=Option.some.inj H
 go_enter Tryz.func116,Tryz.ntmps116
 go_wp2_with (first|((with_reducible refine zB (f:=134) rfl ?_);refine zO (some 4) rfl rfl Tryz.func134 zq7 rfl #[.int .u32 4294967295,.string a0] rfl zq4 ?_;(with_reducible refine (spec_SumMore.calls k 4294967295 a0 t138 _ A2.out).mono ?_);rintro e w' ⟨rfl,⟨nd,rfl⟩⟩;refine ⟨_,rfl,?_⟩))
 go_ret
 exact ⟨by first|rfl|(simp;done)|(simp [*];done),by repeat (first|exact Drawn0.refl _|apply Drawn0.step)⟩
def spec_Sealed.f (k:Nat) (a0:ByteArray):Option (ByteArray×Bool):=if (a0.size:Int)>20000 then (some ((⟨#[]⟩:ByteArray),false)) else ((spec_SumOf.f k a0).bind fun t139=>((spec_l02Four.f t139).bind fun t140=>(if a0.size+t140.size≤9223372036854775807 then (some (a0++t140,true)) else (none))))
theorem spec_Sealed.mono:∀a0 k,LeO (spec_Sealed.f k a0) (spec_Sealed.f (k+1) a0):=by
 intro a0 k
 unfold spec_Sealed.f
 repeat' first
   |(with_reducible exact spec_SumOf.mono _ _)
   |(with_reducible exact LeO.refl _)
   |(with_reducible exact LeO.none _)
   |(with_reducible refine LeO.ite ?_ ?_)
   |(with_reducible refine LeO.bind ?_ (fun _=> ?_))
   |exact spec_SumOf.mono _ _
theorem spec_Sealed.calls (k:Nat) (a0:ByteArray) (r1:ByteArray) (r2:Bool) (w:World) (h:spec_Sealed.f k a0=some (r1,r2)):
  Calls Tryz.prog 82 #[.string a0] w fun e w'=>e= .returned (.tuple #[.string r1,.bool r2])∧Below w.heap.size w w':=by
 have HB:=zz (Below.refl w.heap.size w)
 have H:(if (a0.size:Int)>20000 then (some ((⟨#[]⟩:ByteArray),false)) else ((spec_SumOf.f k a0).bind fun t139=>((spec_l02Four.f t139).bind fun t140=>(if a0.size+t140.size≤9223372036854775807 then (some (a0++t140,true)) else (none)))))=some (r1,r2):=h
 clear h
 by_cases c2:(a0.size:Int)>20000
 ·rw [if_pos c2] at H
  have c2b0:decide (20000<(a0.size:Int))=true:=decide_eq_true c2
  have c2b1:decide (20000<a0.size)=true:=decide_eq_true zq5
  clear c2
  simp only [Option.some.injEq,Prod.mk.injEq] at H
  obtain ⟨rfl,rfl⟩:=H
  go_enter Tryz.func82,Tryz.ntmps82
  go_wp2
  go_ret2
  exact ⟨by first|rfl|(simp [zx,zw]<;>rfl)|(simp [*,zx,zw]<;>rfl),by repeat (first|(with_reducible first|exact HB.out|apply zg|apply zf|apply zm)|exact HB.out)⟩
 ·rw [if_neg c2] at H
  have c2b0:decide (20000<(a0.size:Int))=false:=decide_eq_false c2
  have c2b1:decide (20000<a0.size)=false:=decide_eq_false zq5
  clear c2
  replace H:=Option.bind_eq_some_iff.mp H
  obtain ⟨t139,A30,H⟩:=H
  replace H:((spec_l02Four.f t139).bind fun t140=>(if a0.size+t140.size≤9223372036854775807 then (some (a0++t140,true)) else (none)))=some (r1,r2):=H
  have A3:=zz A30
  clear A30
  replace H:=Option.bind_eq_some_iff.mp H
  obtain ⟨t140,A40,H⟩:=H
  replace H:(if a0.size+t140.size≤9223372036854775807 then (some (a0++t140,true)) else (none))=some (r1,r2):=H
  have A4:=zz A40
  clear A40
  by_cases c5:a0.size+t140.size≤9223372036854775807
  ·rw [if_pos c5] at H
   have c5b0:=eq_true c5
   have c5b1:decide (a0.size+t140.size≤9223372036854775807)=true:=decide_eq_true c5
   try have c5b2:(9223372036854775807<a0.size+t140.size)=False:=eq_false (Nat.not_lt.2 c5)
   simp only [Option.some.injEq,Prod.mk.injEq] at H
   obtain ⟨rfl,rfl⟩:=H
   go_enter Tryz.func82,Tryz.ntmps82
   go_wp2_with (first|((with_reducible refine zB (f:=116) rfl ?_);refine zO (some 9) rfl rfl Tryz.func116 zq7 rfl #[.string a0] rfl zq4 ?_;(with_reducible refine (spec_SumOf.calls k a0 t139 _ A3.out).mono ?_);rintro e w' ⟨rfl,⟨nd,rfl⟩⟩;refine ⟨_,rfl,?_⟩)|((with_reducible refine zB (f:=115) rfl ?_);refine zO (some 10) rfl rfl Tryz.func115 zq7 rfl #[.int .u32 t139] rfl zq4 ?_;(with_reducible refine (spec_l02Four.calls t139 t140 _ A4.out).mono ?_);rintro e w6 ⟨rfl,hb⟩;refine ⟨_,rfl,?_⟩;have n0_:=zz (zk zq1 hb);clear HB;have HB:=n0_;clear n0_;(try clear hb);(try clear hb2);(try clear hk);(try clear hi)))
   go_ret2
   exact ⟨by first|rfl|(simp [zx,zw]<;>rfl)|(simp [*,zx,zw]<;>rfl),by repeat (first|(with_reducible first|exact HB.out|apply zg|apply zf|apply zm)|exact HB.out)⟩
  ·rw [if_neg c5] at H
   exact absurd H zq15
def spec_l01Var.l0:Nat→Int→List Int→Option (ByteArray)
 |0,_,_=>none
 |k+1,x0,x3=>if x0>127 then (if x3.length<140737488355328 then (spec_l01Var.l0 k (wrap64 (Int.tdiv x0 128)) (x3++[(wrap64 ((Int.tmod x0 128)+128))%256])) else (none)) else (if x3.length<140737488355328 then (some (strOfNums (x3++[(x0)%256]))) else (none))
def spec_l01Var.f (k:Nat) (a0:Int):Option (ByteArray):=spec_l01Var.l0 k a0 (([]:List Int))
theorem spec_l01Var.mono_l:∀k,(∀y0 y1,LeO (spec_l01Var.l0 k y0 y1) (spec_l01Var.l0 (k+1) y0 y1))
 |0=>fun _ _ r h=>by simp [spec_l01Var.l0] at h
 |k+1=>by
  have ih0:=spec_l01Var.mono_l k
  ·intro y0 y1
   unfold spec_l01Var.l0
   repeat' first
   |(with_reducible exact ih0 _ _)
   |(with_reducible exact LeO.refl _)
   |(with_reducible exact LeO.none _)
   |(with_reducible refine LeO.ite ?_ ?_)
   |(with_reducible refine LeO.bind ?_ (fun _=> ?_))
   |exact ih0 _ _
theorem spec_l01Var.mono:∀a0 k,LeO (spec_l01Var.f k a0) (spec_l01Var.f (k+1) a0):=by
 intro a0 k
 have ih0:=spec_l01Var.mono_l k
 unfold spec_l01Var.f
 repeat' first
   |(with_reducible exact ih0 _ _)
   |(with_reducible exact LeO.refl _)
   |(with_reducible exact LeO.none _)
   |(with_reducible refine LeO.ite ?_ ?_)
   |(with_reducible refine LeO.bind ?_ (fun _=> ?_))
   |exact ih0 _ _
theorem spec_l01Var.calls (k:Nat) (a0:Int) (r:ByteArray) (w:World) (h:spec_l01Var.f k a0=some r):
  Calls Tryz.prog 81 #[.int .i64 a0] w fun e w'=>e= .returned (.string r)∧Below w.heap.size w w':=by
 have HB:=zz (Below.refl w.heap.size w)
 have H:(spec_l01Var.l0 k a0 (([]:List Int)))=some r:=h
 clear h
 obtain ⟨y170,hy170⟩:∃y_:List Int,y_=(([]:List Int)):=⟨_,rfl⟩
 replace H:(spec_l01Var.l0 k a0 y170)=some r:=by first|(rw [hy170];with_reducible exact H)|(have H2_:=(Option.bind_some _ _).symm.trans H;rw [hy170];with_reducible exact H2_)|(have H2_:=(Option.bind_some _ _).symm.trans H;with_reducible exact H2_)|with_reducible exact H|(rw [hy170];exact H)|exact H
 have Ny170:=zz hy170
 clear hy170
 have H':=zz H
 clear H
 go_enter Tryz.func81,Tryz.ntmps81
 go_wp2_with (first|((with_reducible refine zv (N:=4) rfl ?_);refine Kd.R_lit (Kd.int .u8) _ 5 ?hg (N:=4) ?hd (xs:=([]:List Int)) (inner:=[]) (ok:=fun _=>True) (okp:=fun _=>True) ?hr ?hp (fun _ hk=>hk) trivial (Below.refl _ _) (Nat.le_refl _) zq15 ?_;(case hd=>rfl);(case hg=>rfl);(case hr=>first|(go_simp;done)|(go_simp;rfl));(case hp=>exact (Reps.none _ _));intro v171 w2 ho3 hb hg_ hnew_;clear hg_ hnew_;(first|rw [←Ny170.out] at ho3|(simp only [Int.reduceToNat] at ho3;rw [←Ny170.out] at ho3));have n0_:=zz (Kd.R_lower ho3 (zi zq1));have n1_:=zz (zk zq1 hb);clear HB;have HO172:=n0_;have HB:=n1_;clear n0_ n1_;clear hb ho3))
 go_loopg [0,3] k (fun kq v0 v3 w'=>∃(x0_1:Int) (x3_1:List Int),v0= .int .i64 x0_1∧Z0 (spec_l01Var.l0 kq x0_1 x3_1=some r)∧Z0 (kq≤k)∧Z0 (Kd.R (Kd.int .u8) 5 w' w.heap.size (fun _=>True) v3 x3_1)∧Z0 (Below w.heap.size w w'))
 case atStart=>exact ⟨(a0),(y170),zq12,H',⟨Nat.le_refl _⟩,⟨by (with_reducible repeat (first|apply Kd.R_alloc|apply Kd.R_drewN|apply Kd.R_drew));exact HO172.out⟩,⟨by repeat (first|(with_reducible first|exact HB.out|apply zg|apply zf|apply zm)|exact HB.out)⟩⟩
 case round=>
  clear H'
  obtain ⟨x0_1,x3_1,rfl,HA,HK1,HO_3,HB⟩:=hrel
  cases gk with
  |zero=>exact absurd HA.out (by simp [spec_l01Var.l0])
  |succ k1=>
   have H:=HA.out
   clear HA
   simp only [spec_l01Var.l0] at H
   by_cases c4:x0_1>127
   ·rw [if_pos c4] at H
    have c4b0:decide (127<x0_1)=true:=decide_eq_true c4
    clear c4
    by_cases c5:x3_1.length<140737488355328
    ·rw [if_pos c5] at H
     have LMc5:=zz c5
     clear c5
     obtain ⟨y173,hy173⟩:∃y_:List Int,y_=(x3_1++[(wrap64 ((Int.tmod x0_1 128)+128))%256]):=⟨_,rfl⟩
     replace H:(spec_l01Var.l0 k1 (wrap64 (Int.tdiv x0_1 128)) y173)=some r:=by first|(rw [hy173];with_reducible exact H)|(have H2_:=(Option.bind_some _ _).symm.trans H;rw [hy173];with_reducible exact H2_)|(have H2_:=(Option.bind_some _ _).symm.trans H;with_reducible exact H2_)|with_reducible exact H|(rw [hy173];exact H)|exact H
     have Ny173:=zz hy173
     clear hy173
     have H':=zz H
     clear H
     go_wp2_with (first|((with_reducible refine zQ (b:= .append) (xs:= #[.tmp 7,.tmp 12]) rfl ?_);at_builtin;refine Kd.R_append (Kd.int .u8) (w0:=w) w.heap.size rfl (.tmp 7) (.tmp 12) 141 5 (.int .u8 0) 1 rfl Tryz.underlying141 info5 rfl zq14 zq5 u3 x3_1 ((wrap64 ((Int.tmod x0_1 128)+128))%256) [.int .u8 ((wrap64 ((Int.tmod x0_1 128)+128))%256)] (fun _=>True) (fun _=>False) rfl rfl ?aP (fun _ hk=>hk.elim) ?aF ?aO ?aB ?aS ?aL ?_;(case aP=>exact rfl);(case aB=>exact zq1);(case aF=>exact (fun _ _=>trivial));(case aO=>exact (zq9 HO_3.out));(case aS=>exact (zi zq1));(case aL=>have:=LMc5.out;omega);intro v174 w6 ho hb hg hat;rw [←Ny173.out] at ho;have n0_:=zz (hb);have n1_:=zz (ho);clear HB;clear HO_3;have HB:=n0_;have HO175:=n1_;clear n0_ n1_;clear ho hb hg hat))
     go_roundg k1
     case measure=>have:=HK1.out;omega
     case rel=>exact ⟨(wrap64 (Int.tdiv x0_1 128)),(y173),zq12,H',⟨by have:=HK1.out;omega⟩,⟨by (with_reducible repeat (first|apply Kd.R_alloc|apply Kd.R_drewN|apply Kd.R_drew));exact HO175.out⟩,⟨by repeat (first|(with_reducible first|exact HB.out|apply zg|apply zf|apply zm)|exact HB.out)⟩⟩
    ·rw [if_neg c5] at H
     exact absurd H zq15
   ·rw [if_neg c4] at H
    have c4b0:decide (127<x0_1)=false:=decide_eq_false c4
    clear c4
    by_cases c7:x3_1.length<140737488355328
    ·rw [if_pos c7] at H
     have LMc7:=zz c7
     clear c7
     obtain ⟨y176,hy176⟩:∃y_:List Int,y_=(x3_1++[(x0_1)%256]):=⟨_,rfl⟩
     replace H:(some (strOfNums y176))=some r:=by first|(rw [hy176];with_reducible exact H)|(have H2_:=(Option.bind_some _ _).symm.trans H;rw [hy176];with_reducible exact H2_)|(have H2_:=(Option.bind_some _ _).symm.trans H;with_reducible exact H2_)|with_reducible exact H|(rw [hy176];exact H)|exact H
     have Ny176:=zz hy176
     clear hy176
     obtain rfl:=Option.some.inj H
     go_wp2_with (first|((with_reducible refine zQ (b:= .append) (xs:= #[.tmp 16,.tmp 19]) rfl ?_);at_builtin;refine Kd.R_append (Kd.int .u8) (w0:=w) w.heap.size rfl (.tmp 16) (.tmp 19) 141 5 (.int .u8 0) 1 rfl Tryz.underlying141 info5 rfl zq14 zq5 u3 x3_1 ((x0_1)%256) [.int .u8 ((x0_1)%256)] (fun _=>True) (fun _=>False) rfl rfl ?aP (fun _ hk=>hk.elim) ?aF ?aO ?aB ?aS ?aL ?_;(case aP=>exact rfl);(case aB=>exact zq1);(case aF=>exact (fun _ _=>trivial));(case aO=>exact (zq9 HO_3.out));(case aS=>exact (zi zq1));(case aL=>have:=LMc7.out;omega);intro v177 w8 ho hb hg hat;rw [←Ny176.out] at ho;have n0_:=zz (hb);have n1_:=zz (ho);clear HB;clear HO_3;have HB:=n0_;have HO178:=n1_;clear n0_ n1_;clear ho hb hg hat;have hcv9:=zAb (P:=Tryz.prog) Tryz.underlying141 Tryz.underlying5 Tryz.underlying9 (Kd.own_of_R HO178.out)))
     go_ret
     exact ⟨by first|rfl|(simp [zx,zw]<;>rfl)|(simp [*,zx,zw]<;>rfl),by repeat (first|(with_reducible first|exact HB.out|apply zg|apply zf|apply zm)|exact HB.out)⟩
    ·rw [if_neg c7] at H
     exact absurd H zq15
mutual
def impl_SumMore.l0:Nat→Int→ByteArray→Int→Int→Option (Int)
 |0,_,_,_,_=>none
 |k+1,x0,x1,x8,x9=>if x9<x8 then (if 0≤x9 then (if x9<(x1.size:Int) then (impl_SumMore.l1 k (Go.bits .xor .u32 x0 ((bt x1 x9)%4294967296)) x1 x8 x9 0) else (none)) else (none)) else (some x0)
def impl_SumMore.l1:Nat→Int→ByteArray→Int→Int→Int→Option (Int)
 |0,_,_,_,_,_=>none
 |k+1,x0,x1,x8,x9,x18=>if x18<8 then (if (Go.bits .and .u32 x0 1)=1 then (impl_SumMore.l1 k (Go.bits .xor .u32 (x0/2) 3558460437) x1 x8 x9 (wrap64 (x18+1))) else (impl_SumMore.l1 k (x0/2) x1 x8 x9 (wrap64 (x18+1)))) else (impl_SumMore.l0 k x0 x1 x8 (wrap64 (x9+1)))
end
def impl_SumMore.f (k:Nat) (a0:Int) (a1:ByteArray):Option (Int):=impl_SumMore.l0 k a0 a1 (a1.size:Int) 0
theorem impl_SumMore.mono_l:∀k,(∀y0 y1 y2 y3,LeO (impl_SumMore.l0 k y0 y1 y2 y3) (impl_SumMore.l0 (k+1) y0 y1 y2 y3))∧(∀y0 y1 y2 y3 y4,LeO (impl_SumMore.l1 k y0 y1 y2 y3 y4) (impl_SumMore.l1 (k+1) y0 y1 y2 y3 y4))
 |0=>⟨fun _ _ _ _ r h=>by simp [impl_SumMore.l0] at h,fun _ _ _ _ _ r h=>by simp [impl_SumMore.l1] at h⟩
 |k+1=>by
  obtain ⟨ih0,ih1⟩:=impl_SumMore.mono_l k
  refine ⟨?_,?_⟩
  ·intro y0 y1 y2 y3
   unfold impl_SumMore.l0
   repeat' first
   |(with_reducible exact ih0 _ _ _ _)
   |(with_reducible exact ih1 _ _ _ _ _)
   |(with_reducible exact LeO.refl _)
   |(with_reducible exact LeO.none _)
   |(with_reducible refine LeO.ite ?_ ?_)
   |(with_reducible refine LeO.bind ?_ (fun _=> ?_))
   |exact ih0 _ _ _ _
   |exact ih1 _ _ _ _ _
  ·intro y0 y1 y2 y3 y4
   unfold impl_SumMore.l1
   repeat' first
   |(with_reducible exact ih0 _ _ _ _)
   |(with_reducible exact ih1 _ _ _ _ _)
   |(with_reducible exact LeO.refl _)
   |(with_reducible exact LeO.none _)
   |(with_reducible refine LeO.ite ?_ ?_)
   |(with_reducible refine LeO.bind ?_ (fun _=> ?_))
   |exact ih0 _ _ _ _
   |exact ih1 _ _ _ _ _
theorem impl_SumMore.mono:∀a0 a1 k,LeO (impl_SumMore.f k a0 a1) (impl_SumMore.f (k+1) a0 a1):=by
 intro a0 a1 k
 obtain ⟨ih0,ih1⟩:=impl_SumMore.mono_l k
 unfold impl_SumMore.f
 repeat' first
   |(with_reducible exact ih0 _ _ _ _)
   |(with_reducible exact ih1 _ _ _ _ _)
   |(with_reducible exact LeO.refl _)
   |(with_reducible exact LeO.none _)
   |(with_reducible refine LeO.ite ?_ ?_)
   |(with_reducible refine LeO.bind ?_ (fun _=> ?_))
   |exact ih0 _ _ _ _
   |exact ih1 _ _ _ _ _
theorem impl_SumMore.calls (k:Nat) (a0:Int) (a1:ByteArray) (r:Int) (w:World) (h:impl_SumMore.f k a0 a1=some r):
  Calls Tryz.prog 156 #[.int .u32 a0,.string a1] w fun e w'=>e= .returned (.int .u32 r)∧Drawn0 w w':=by
 have H:(impl_SumMore.l0 k a0 a1 (a1.size:Int) 0)=some r:=h
 clear h
 have H':=zz H
 clear H
 go_enter Tryz.func156,Tryz.ntmps156
 go_wp2
 go_loopg [0,9] k (fun kq v0 v9 w'=>∃(x0_1:Int) (x9_1:Int),v0= .int .u32 x0_1∧v9= .int .i64 x9_1∧Z0 (impl_SumMore.l0 kq x0_1 a1 (a1.size:Int) x9_1=some r)∧Z0 (kq≤k)∧Drawn0 w w')
 case atStart=>exact ⟨(a0),(0),zq12,zq12,H',⟨Nat.le_refl _⟩,by repeat (first|exact Drawn0.refl _|apply Drawn0.step)⟩
 case round=>
  clear H'
  obtain ⟨x0_1,x9_1,rfl,rfl,HA,HK1,⟨m1,rfl⟩⟩:=hrel
  cases gk with
  |zero=>exact absurd HA.out (by simp [impl_SumMore.l0])
  |succ k1=>
   have H:=HA.out
   clear HA
   simp only [impl_SumMore.l0] at H
   by_cases c3:x9_1<(a1.size:Int)
   ·rw [if_pos c3] at H
    have c3b0:decide (x9_1<(a1.size:Int))=true:=decide_eq_true c3
    clear c3
    by_cases c4:0≤x9_1
    ·rw [if_pos c4] at H
     have c4b0:decide (0≤x9_1)=true:=decide_eq_true c4
     clear c4
     by_cases c5:x9_1<(a1.size:Int)
     ·rw [if_pos c5] at H
      have c5b0:decide (x9_1<(a1.size:Int))=true:=decide_eq_true c5
      clear c5
      have H':=zz H
      clear H
      have p6:0≤(x9_1:Int):=of_decide_eq_true zq11
      have q6:x9_1<(a1.size:Int):=of_decide_eq_true zq11
      have hx6:=bt_at a1 x9_1
      replace p6:=eq_true p6
      replace q6:=eq_true q6
      go_wp2
      go_loopg [0,18] k1 (fun kq v0 v18 w'=>∃(x0_2:Int) (x18_2:Int),v0= .int .u32 x0_2∧v18= .int .i64 x18_2∧Z0 (impl_SumMore.l1 kq x0_2 a1 (a1.size:Int) x9_1 x18_2=some r)∧Z0 (kq≤k1)∧Drawn0 w w')
      case atStart=>exact ⟨(Go.bits .xor .u32 x0_1 ((bt a1 x9_1)%4294967296)),(0),zq12,zq12,H',⟨Nat.le_refl _⟩,by repeat (first|exact Drawn0.refl _|apply Drawn0.step)⟩
      case round=>
       clear H'
       try clear c3
       try clear c3b0
       try clear c4
       try clear c4b0
       try clear c5
       try clear c5b0
       try clear p6
       try clear q6
       try clear hx6
       try clear p6
       try clear q6
       obtain ⟨x0_2,x18_2,rfl,rfl,HA,HK2,⟨m2,rfl⟩⟩:=hrel
       cases gk with
       |zero=>exact absurd HA.out (by simp [impl_SumMore.l1])
       |succ k2=>
        have H:=HA.out
        clear HA
        simp only [impl_SumMore.l1] at H
        by_cases c7:x18_2<8
        ·rw [if_pos c7] at H
         have c7b0:decide (x18_2<8)=true:=decide_eq_true c7
         clear c7
         by_cases c8:(Go.bits .and .u32 x0_2 1)=1
         ·rw [if_pos c8] at H
          have c8b0:((Go.bits .and .u32 x0_2 1)==1)=true:=beq_iff_eq.mpr c8
          have c8b1:((Go.bits .and .u32 x0_2 1) !=1)=false:=bne_eq_false_iff_eq.mpr c8
          clear c8
          have H':=zz H
          clear H
          go_wp2
          go_roundg k2
          case measure=>have:=HK1.out;have:=HK2.out;omega
          case rel=>exact ⟨(Go.bits .xor .u32 (x0_2/2) 3558460437),(wrap64 (x18_2+1)),zq12,zq12,H',⟨by have:=HK1.out;have:=HK2.out;omega⟩,by repeat (first|exact Drawn0.refl _|apply Drawn0.step)⟩
         ·rw [if_neg c8] at H
          have c8b0:((Go.bits .and .u32 x0_2 1)==1)=false:=beq_eq_false_iff_ne.mpr c8
          have c8b1:((Go.bits .and .u32 x0_2 1) !=1)=true:=bne_iff_ne.mpr c8
          have H':=zz H
          clear H
          go_wp2
          go_roundg k2
          case measure=>have:=HK1.out;have:=HK2.out;omega
          case rel=>exact ⟨(x0_2/2),(wrap64 (x18_2+1)),zq12,zq12,H',⟨by have:=HK1.out;have:=HK2.out;omega⟩,by repeat (first|exact Drawn0.refl _|apply Drawn0.step)⟩
        ·rw [if_neg c7] at H
         have c7b0:decide (x18_2<8)=false:=decide_eq_false c7
         clear c7
         have H':=zz H
         clear H
         go_wp2
         go_roundg k2
         case measure=>have:=HK1.out;have:=HK2.out;omega
         case rel=>exact ⟨(x0_2),(wrap64 (x9_1+1)),zq12,zq12,H',⟨by have:=HK1.out;have:=HK2.out;omega⟩,by repeat (first|exact Drawn0.refl _|apply Drawn0.step)⟩
     ·rw [if_neg c5] at H
      exact absurd H zq15
    ·rw [if_neg c4] at H
     exact absurd H zq15
   ·rw [if_neg c3] at H
    have c3b0:decide (x9_1<(a1.size:Int))=false:=decide_eq_false c3
    clear c3
    obtain rfl:=Option.some.inj H
    go_wp2
    go_ret
    exact ⟨by first|rfl|(simp;done)|(simp [*];done),by repeat (first|exact Drawn0.refl _|apply Drawn0.step)⟩
def impl_SumOf.f (k:Nat) (a0:ByteArray):Option (Int):=(impl_SumMore.f k 4294967295 a0).bind fun t459=>(some t459)
theorem impl_SumOf.mono:∀a0 k,LeO (impl_SumOf.f k a0) (impl_SumOf.f (k+1) a0):=by
 intro a0 k
 unfold impl_SumOf.f
 repeat' first
   |(with_reducible exact impl_SumMore.mono _ _ _)
   |(with_reducible exact LeO.refl _)
   |(with_reducible exact LeO.none _)
   |(with_reducible refine LeO.ite ?_ ?_)
   |(with_reducible refine LeO.bind ?_ (fun _=> ?_))
   |exact impl_SumMore.mono _ _ _
theorem impl_SumOf.calls (k:Nat) (a0:ByteArray) (r:Int) (w:World) (h:impl_SumOf.f k a0=some r):
  Calls Tryz.prog 147 #[.string a0] w fun e w'=>e= .returned (.int .u32 r)∧Drawn0 w w':=by
 have H:((impl_SumMore.f k 4294967295 a0).bind fun t459=>(some t459))=some r:=h
 clear h
 replace H:=Option.bind_eq_some_iff.mp H
 obtain ⟨t459,A20,H⟩:=H
 replace H:(some t459)=some r:=H
 have A2:=zz A20
 clear A20
 obtain rfl:=Option.some.inj H
 go_enter Tryz.func147,Tryz.ntmps147
 go_wp2_with (first|((with_reducible refine zB (f:=156) rfl ?_);refine zO (some 4) rfl rfl Tryz.func156 zq7 rfl #[.int .u32 4294967295,.string a0] rfl zq4 ?_;(with_reducible refine (impl_SumMore.calls k 4294967295 a0 t459 _ A2.out).mono ?_);rintro e w' ⟨rfl,⟨nd,rfl⟩⟩;refine ⟨_,rfl,?_⟩))
 go_ret
 exact ⟨by first|rfl|(simp;done)|(simp [*];done),by repeat (first|exact Drawn0.refl _|apply Drawn0.step)⟩
def impl_seal.f (k:Nat) (a0:ByteArray):Option (ByteArray):=(impl_SumOf.f k a0).bind fun t460=>(some (strOfNums (([(t460/16777216)%256,(t460/65536)%256,(t460/256)%256,(t460)%256]:List Int))))
theorem impl_seal.mono:∀a0 k,LeO (impl_seal.f k a0) (impl_seal.f (k+1) a0):=by
 intro a0 k
 unfold impl_seal.f
 repeat' first
   |(with_reducible exact impl_SumOf.mono _ _)
   |(with_reducible exact LeO.refl _)
   |(with_reducible exact LeO.none _)
   |(with_reducible refine LeO.ite ?_ ?_)
   |(with_reducible refine LeO.bind ?_ (fun _=> ?_))
   |exact impl_SumOf.mono _ _
theorem impl_seal.calls (k:Nat) (a0:ByteArray) (r:ByteArray) (w:World) (h:impl_seal.f k a0=some r):
  Calls Tryz.prog 125 #[.string a0] w fun e w'=>e= .returned (.string r)∧Below w.heap.size w w':=by
 have HB:=zz (Below.refl w.heap.size w)
 have H:((impl_SumOf.f k a0).bind fun t460=>(some (strOfNums (([(t460/16777216)%256,(t460/65536)%256,(t460/256)%256,(t460)%256]:List Int)))))=some r:=h
 clear h
 replace H:=Option.bind_eq_some_iff.mp H
 obtain ⟨t460,A20,H⟩:=H
 replace H:(some (strOfNums (([(t460/16777216)%256,(t460/65536)%256,(t460/256)%256,(t460)%256]:List Int))))=some r:=H
 have A2:=zz A20
 clear A20
 obtain ⟨y461,hy461⟩:∃y_:List Int,y_=(([(t460/16777216)%256,(t460/65536)%256,(t460/256)%256,(t460)%256]:List Int)):=⟨_,rfl⟩
 replace H:(some (strOfNums y461))=some r:=by first|(rw [hy461];with_reducible exact H)|(have H2_:=(Option.bind_some _ _).symm.trans H;rw [hy461];with_reducible exact H2_)|(have H2_:=(Option.bind_some _ _).symm.trans H;with_reducible exact H2_)|with_reducible exact H|(rw [hy461];exact H)|exact H
 have Ny461:=zz hy461
 clear hy461
 obtain rfl:=Option.some.inj H
 go_enter Tryz.func125,Tryz.ntmps125
 go_wp2_with (first|((with_reducible refine zB (f:=147) rfl ?_);refine zO (some 5) rfl rfl Tryz.func147 zq7 rfl #[.string a0] rfl zq4 ?_;(with_reducible refine (impl_SumOf.calls k a0 t460 _ A2.out).mono ?_);rintro e w' ⟨rfl,⟨nd,rfl⟩⟩;refine ⟨_,rfl,?_⟩)|((with_reducible refine zv (N:=17) rfl ?_);refine Kd.R_lit (Kd.int .u8) _ 5 ?hg (N:=17) ?hd (xs:=([(t460/16777216)%256,(t460/65536)%256,(t460/256)%256,(t460)%256]:List Int)) (inner:=[.int .u8 ((t460/16777216)%256),.int .u8 ((t460/65536)%256),.int .u8 ((t460/256)%256),.int .u8 ((t460)%256)]) (ok:=fun _=>True) (okp:=fun _=>True) ?hr ?hp (fun _ hk=>hk) trivial (Below.refl _ _) (Nat.le_refl _) zq15 ?_;(case hd=>rfl);(case hg=>rfl);(case hr=>first|(go_simp;done)|(go_simp;rfl));(case hp=>exact (Reps.one (show Kd.M (Kd.int .u8) _ _ _ ((t460/16777216)%256) [.int .u8 ((t460/16777216)%256)] from rfl) (Reps.one (show Kd.M (Kd.int .u8) _ _ _ ((t460/65536)%256) [.int .u8 ((t460/65536)%256)] from rfl) (Reps.one (show Kd.M (Kd.int .u8) _ _ _ ((t460/256)%256) [.int .u8 ((t460/256)%256)] from rfl) (Reps.one (show Kd.M (Kd.int .u8) _ _ _ ((t460)%256) [.int .u8 ((t460)%256)] from rfl) (Reps.none _ _))))));intro v462 w3 ho4 hb hg_ hnew_;clear hg_ hnew_;(first|rw [←Ny461.out] at ho4|(simp only [Int.reduceToNat] at ho4;rw [←Ny461.out] at ho4));have n0_:=zz (Kd.R_lower ho4 (zi zq1));have n1_:=zz (zk zq1 hb);clear HB;have HO463:=n0_;have HB:=n1_;clear n0_ n1_;clear hb ho4;have hcv5:=zAb (P:=Tryz.prog) Tryz.underlying141 Tryz.underlying5 Tryz.underlying9 (Kd.own_of_R HO463.out)))
 go_ret
 exact ⟨by first|rfl|(simp [zx,zw]<;>rfl)|(simp [*,zx,zw]<;>rfl),by repeat (first|(with_reducible first|exact HB.out|apply zg|apply zf|apply zm)|exact HB.out)⟩
def impl_varText.l0:Nat→Int→List Int→Option (ByteArray)
 |0,_,_=>none
 |k+1,x0,x3=>if x0>127 then (if x3.length<140737488355328 then (impl_varText.l0 k (x0/128) (x3++[(Go.bits .or .i64 (Go.bits .and .i64 x0 127) 128)%256])) else (none)) else (if x3.length<140737488355328 then (some (strOfNums (x3++[(x0)%256]))) else (none))
def impl_varText.f (k:Nat) (a0:Int):Option (ByteArray):=impl_varText.l0 k a0 (([]:List Int))
theorem impl_varText.mono_l:∀k,(∀y0 y1,LeO (impl_varText.l0 k y0 y1) (impl_varText.l0 (k+1) y0 y1))
 |0=>fun _ _ r h=>by simp [impl_varText.l0] at h
 |k+1=>by
  have ih0:=impl_varText.mono_l k
  ·intro y0 y1
   unfold impl_varText.l0
   repeat' first
   |(with_reducible exact ih0 _ _)
   |(with_reducible exact LeO.refl _)
   |(with_reducible exact LeO.none _)
   |(with_reducible refine LeO.ite ?_ ?_)
   |(with_reducible refine LeO.bind ?_ (fun _=> ?_))
   |exact ih0 _ _
theorem impl_varText.mono:∀a0 k,LeO (impl_varText.f k a0) (impl_varText.f (k+1) a0):=by
 intro a0 k
 have ih0:=impl_varText.mono_l k
 unfold impl_varText.f
 repeat' first
   |(with_reducible exact ih0 _ _)
   |(with_reducible exact LeO.refl _)
   |(with_reducible exact LeO.none _)
   |(with_reducible refine LeO.ite ?_ ?_)
   |(with_reducible refine LeO.bind ?_ (fun _=> ?_))
   |exact ih0 _ _
theorem impl_varText.calls (k:Nat) (a0:Int) (r:ByteArray) (w:World) (h:impl_varText.f k a0=some r):
  Calls Tryz.prog 124 #[.int .i64 a0] w fun e w'=>e= .returned (.string r)∧Below w.heap.size w w':=by
 have HB:=zz (Below.refl w.heap.size w)
 have H:(impl_varText.l0 k a0 (([]:List Int)))=some r:=h
 clear h
 obtain ⟨y426,hy426⟩:∃y_:List Int,y_=(([]:List Int)):=⟨_,rfl⟩
 replace H:(impl_varText.l0 k a0 y426)=some r:=by first|(rw [hy426];with_reducible exact H)|(have H2_:=(Option.bind_some _ _).symm.trans H;rw [hy426];with_reducible exact H2_)|(have H2_:=(Option.bind_some _ _).symm.trans H;with_reducible exact H2_)|with_reducible exact H|(rw [hy426];exact H)|exact H
 have Ny426:=zz hy426
 clear hy426
 have H':=zz H
 clear H
 go_enter Tryz.func124,Tryz.ntmps124
 go_wp2_with (first|((with_reducible refine zv (N:=4) rfl ?_);refine Kd.R_lit (Kd.int .u8) _ 5 ?hg (N:=4) ?hd (xs:=([]:List Int)) (inner:=[]) (ok:=fun _=>True) (okp:=fun _=>True) ?hr ?hp (fun _ hk=>hk) trivial (Below.refl _ _) (Nat.le_refl _) zq15 ?_;(case hd=>rfl);(case hg=>rfl);(case hr=>first|(go_simp;done)|(go_simp;rfl));(case hp=>exact (Reps.none _ _));intro v427 w2 ho3 hb hg_ hnew_;clear hg_ hnew_;(first|rw [←Ny426.out] at ho3|(simp only [Int.reduceToNat] at ho3;rw [←Ny426.out] at ho3));have n0_:=zz (Kd.R_lower ho3 (zi zq1));have n1_:=zz (zk zq1 hb);clear HB;have HO428:=n0_;have HB:=n1_;clear n0_ n1_;clear hb ho3))
 go_loopg [0,3] k (fun kq v0 v3 w'=>∃(x0_1:Int) (x3_1:List Int),v0= .int .i64 x0_1∧Z0 (impl_varText.l0 kq x0_1 x3_1=some r)∧Z0 (kq≤k)∧Z0 (Kd.R (Kd.int .u8) 5 w' w.heap.size (fun _=>True) v3 x3_1)∧Z0 (Below w.heap.size w w'))
 case atStart=>exact ⟨(a0),(y426),zq12,H',⟨Nat.le_refl _⟩,⟨by (with_reducible repeat (first|apply Kd.R_alloc|apply Kd.R_drewN|apply Kd.R_drew));exact HO428.out⟩,⟨by repeat (first|(with_reducible first|exact HB.out|apply zg|apply zf|apply zm)|exact HB.out)⟩⟩
 case round=>
  clear H'
  obtain ⟨x0_1,x3_1,rfl,HA,HK1,HO_3,HB⟩:=hrel
  cases gk with
  |zero=>exact absurd HA.out (by simp [impl_varText.l0])
  |succ k1=>
   have H:=HA.out
   clear HA
   simp only [impl_varText.l0] at H
   by_cases c4:x0_1>127
   ·rw [if_pos c4] at H
    have c4b0:decide (127<x0_1)=true:=decide_eq_true c4
    clear c4
    by_cases c5:x3_1.length<140737488355328
    ·rw [if_pos c5] at H
     have LMc5:=zz c5
     clear c5
     obtain ⟨y429,hy429⟩:∃y_:List Int,y_=(x3_1++[(Go.bits .or .i64 (Go.bits .and .i64 x0_1 127) 128)%256]):=⟨_,rfl⟩
     replace H:(impl_varText.l0 k1 (x0_1/128) y429)=some r:=by first|(rw [hy429];with_reducible exact H)|(have H2_:=(Option.bind_some _ _).symm.trans H;rw [hy429];with_reducible exact H2_)|(have H2_:=(Option.bind_some _ _).symm.trans H;with_reducible exact H2_)|with_reducible exact H|(rw [hy429];exact H)|exact H
     have Ny429:=zz hy429
     clear hy429
     have H':=zz H
     clear H
     go_wp2_with (first|((with_reducible refine zQ (b:= .append) (xs:= #[.tmp 7,.tmp 12]) rfl ?_);at_builtin;refine Kd.R_append (Kd.int .u8) (w0:=w) w.heap.size rfl (.tmp 7) (.tmp 12) 141 5 (.int .u8 0) 1 rfl Tryz.underlying141 info5 rfl zq14 zq5 u3 x3_1 ((Go.bits .or .i64 (Go.bits .and .i64 x0_1 127) 128)%256) [.int .u8 ((Go.bits .or .i64 (Go.bits .and .i64 x0_1 127) 128)%256)] (fun _=>True) (fun _=>False) rfl rfl ?aP (fun _ hk=>hk.elim) ?aF ?aO ?aB ?aS ?aL ?_;(case aP=>exact rfl);(case aB=>exact zq1);(case aF=>exact (fun _ _=>trivial));(case aO=>exact (zq9 HO_3.out));(case aS=>exact (zi zq1));(case aL=>have:=LMc5.out;omega);intro v430 w6 ho hb hg hat;rw [←Ny429.out] at ho;have n0_:=zz (hb);have n1_:=zz (ho);clear HB;clear HO_3;have HB:=n0_;have HO431:=n1_;clear n0_ n1_;clear ho hb hg hat))
     go_roundg k1
     case measure=>have:=HK1.out;omega
     case rel=>exact ⟨(x0_1/128),(y429),zq12,H',⟨by have:=HK1.out;omega⟩,⟨by (with_reducible repeat (first|apply Kd.R_alloc|apply Kd.R_drewN|apply Kd.R_drew));exact HO431.out⟩,⟨by repeat (first|(with_reducible first|exact HB.out|apply zg|apply zf|apply zm)|exact HB.out)⟩⟩
    ·rw [if_neg c5] at H
     exact absurd H zq15
   ·rw [if_neg c4] at H
    have c4b0:decide (127<x0_1)=false:=decide_eq_false c4
    clear c4
    by_cases c7:x3_1.length<140737488355328
    ·rw [if_pos c7] at H
     have LMc7:=zz c7
     clear c7
     obtain ⟨y432,hy432⟩:∃y_:List Int,y_=(x3_1++[(x0_1)%256]):=⟨_,rfl⟩
     replace H:(some (strOfNums y432))=some r:=by first|(rw [hy432];with_reducible exact H)|(have H2_:=(Option.bind_some _ _).symm.trans H;rw [hy432];with_reducible exact H2_)|(have H2_:=(Option.bind_some _ _).symm.trans H;with_reducible exact H2_)|with_reducible exact H|(rw [hy432];exact H)|exact H
     have Ny432:=zz hy432
     clear hy432
     obtain rfl:=Option.some.inj H
     go_wp2_with (first|((with_reducible refine zQ (b:= .append) (xs:= #[.tmp 16,.tmp 19]) rfl ?_);at_builtin;refine Kd.R_append (Kd.int .u8) (w0:=w) w.heap.size rfl (.tmp 16) (.tmp 19) 141 5 (.int .u8 0) 1 rfl Tryz.underlying141 info5 rfl zq14 zq5 u3 x3_1 ((x0_1)%256) [.int .u8 ((x0_1)%256)] (fun _=>True) (fun _=>False) rfl rfl ?aP (fun _ hk=>hk.elim) ?aF ?aO ?aB ?aS ?aL ?_;(case aP=>exact rfl);(case aB=>exact zq1);(case aF=>exact (fun _ _=>trivial));(case aO=>exact (zq9 HO_3.out));(case aS=>exact (zi zq1));(case aL=>have:=LMc7.out;omega);intro v433 w8 ho hb hg hat;rw [←Ny432.out] at ho;have n0_:=zz (hb);have n1_:=zz (ho);clear HB;clear HO_3;have HB:=n0_;have HO434:=n1_;clear n0_ n1_;clear ho hb hg hat;have hcv9:=zAb (P:=Tryz.prog) Tryz.underlying141 Tryz.underlying5 Tryz.underlying9 (Kd.own_of_R HO434.out)))
     go_ret
     exact ⟨by first|rfl|(simp [zx,zw]<;>rfl)|(simp [*,zx,zw]<;>rfl),by repeat (first|(with_reducible first|exact HB.out|apply zg|apply zf|apply zm)|exact HB.out)⟩
    ·rw [if_neg c7] at H
     exact absurd H zq15
structure TxF (k:Nat) (vt:Int→ByteArray) (sl:ByteArray→ByteArray):Prop where
 vS:∀n:Int,0≤n→n≤100000→spec_l01Var.f k n=some (vt n)
 vI:∀n:Int,0≤n→n≤100000→impl_varText.f k n=some (vt n)
 vz:∀n:Int,(vt n).size≤8
 sS:∀s:ByteArray,s.size≤20000→spec_Sealed.f k s=some (s++sl s,true)
 sI:∀s:ByteArray,s.size≤20000→impl_seal.f k s=some (sl s)
 sz:∀s,(sl s).size=4
section
variable (vt:Int→ByteArray) (sl:ByteArray→ByteArray)
def pacc (s:ByteArray) (ps:List Int):ByteArray:=ps.foldl (fun s p=>s++vt p) s
def facc (s:ByteArray) (fs:List S112):ByteArray:=fs.foldl (fun s f=>pacc vt (s++vt f.f0++vt (f.f1.length:Int)) f.f1) s
def mhead (x:S40):ByteArray:=vt x.f0++vt x.f1++vt x.f2++vt (x.f3.length:Int)
def mbody (x:S40):ByteArray:=facc vt (mhead vt x) x.f3
def MTxt (x:S40) (t:ByteArray) (ok:Bool):Prop:=(¬MOk x∧t=⟨#[]⟩∧ok=false)∨(MOk x∧240<(mbody vt x++sl (mbody vt x)).size∧t=⟨#[]⟩∧ok=false)∨(MOk x∧(mbody vt x++sl (mbody vt x)).size≤240∧t=mbody vt x++sl (mbody vt x)∧ok=true)
end
section
variable {vt:Int→ByteArray} {sl:ByteArray→ByteArray} {k:Nat}
theorem pacc_succ {ps:List Int} {i:Nat} {p:Int} {s:ByteArray} (h:ps[i]?=some p):pacc vt s (ps.take (i+1))=pacc vt s (ps.take i)++vt p:=by
 obtain ⟨hi,rfl⟩:=List.getElem?_eq_some_iff.1 h
 unfold pacc
 rw [List.take_succ_eq_append_getElem hi,List.foldl_append]
 rfl
theorem facc_succ {fs:List S112} {i:Nat} {f:S112} {s:ByteArray} (h:fs[i]?=some f):facc vt s (fs.take (i+1))=pacc vt (facc vt s (fs.take i)++vt f.f0++vt (f.f1.length:Int)) f.f1:=by
 obtain ⟨hi,rfl⟩:=List.getElem?_eq_some_iff.1 h
 unfold facc
 rw [List.take_succ_eq_append_getElem hi,List.foldl_append]
 rfl
theorem pacc_size (V:∀n:Int,(vt n).size≤8) (s:ByteArray):∀ps:List Int,(pacc vt s ps).size≤s.size+8*ps.length:=by
 intro ps
 induction ps generalizing s with
 |nil=>simp [pacc]
 |cons p ps ih=>
  have:=ih (s++vt p)
  have:=V p
  rw [ByteArray.size_append] at*
  simp only [pacc,List.foldl_cons,List.length_cons] at*
  omega
theorem facc_size (V:∀n:Int,(vt n).size≤8) (s:ByteArray):∀fs:List S112,(∀f∈fs,f.f1.length≤40)→(facc vt s fs).size≤s.size+336*fs.length:=by
 intro fs
 induction fs generalizing s with
 |nil=>simp [facc]
 |cons f fs ih=>
  intro h
  have h1:=ih (pacc vt (s++vt f.f0++vt (f.f1.length:Int)) f.f1) (fun g hg=>h g (List.mem_cons_of_mem _ hg))
  have h2:=pacc_size V (s++vt f.f0++vt (f.f1.length:Int)) f.f1
  have:=V f.f0
  have:=V (f.f1.length:Int)
  have:=h f List.mem_cons_self
  rw [ByteArray.size_append,ByteArray.size_append] at h2
  show (facc vt _ fs).size≤_
  simp only [List.length_cons]
  omega
theorem mhead_size (V:∀n:Int,(vt n).size≤8) (x:S40):(mhead vt x).size≤32:=by
 unfold mhead
 have:=V x.f0
 have:=V x.f1
 have:=V x.f2
 have:=V (x.f3.length:Int)
 simp only [ByteArray.size_append]
 omega
theorem MOk.f0 {x:S40} (h:MOk x):0≤x.f0∧x.f0≤100000:=h.1.1
theorem MOk.f1 {x:S40} (h:MOk x):0≤x.f1∧x.f1≤100000:=by
 obtain ⟨⟨-,h2,h1,-⟩,-⟩:=h
 rcases h1 with h1|h1<;>omega
theorem MOk.f2 {x:S40} (h:MOk x):0≤x.f2∧x.f2≤100000:=by
 have:=h.1.2.1
 omega
theorem MOk.len {x:S40} (h:MOk x):x.f3.length≤20:=h.1.2.2.2
theorem MOk.fr {x:S40} (h:MOk x) {i:Nat} {f:S112} (hi:x.f3[i]?=some f):(0≤f.f0∧f.f0≤100000)∧f.f1.length≤40∧∀(j:Nat) (p:Int),f.f1[j]?=some p→0≤p∧p≤100000:=by
 obtain ⟨h1,h2⟩:=h.2 i f hi
 have:=h.f0
 have:=h1.1
 have:=h.1.2.1
 refine ⟨by omega,h1.2.2.2,fun j p hp=> ?_⟩
 have:=(h2 j p hp).1
 omega
theorem MOk.le40 {x:S40} (h:MOk x):∀f∈x.f3,f.f1.length≤40:=fun f hf=>by
 obtain ⟨i,hi,rfl⟩:=List.getElem_of_mem hf
 exact (h.fr (List.getElem?_eq_getElem hi)).2.1
theorem varS (T:TxF k vt sl) (n:Int) (h0:0≤n) (h1:n≤100000) (w:World):Calls Tryz.prog 81 #[.int .i64 n] w fun e w'=>e= .returned (.string (vt n))∧Below w.heap.size w w':=spec_l01Var.calls k n _ w (T.vS n h0 h1)
theorem varI (T:TxF k vt sl) (n:Int) (h0:0≤n) (h1:n≤100000) (w:World):Calls Tryz.prog 124 #[.int .i64 n] w fun e w'=>e= .returned (.string (vt n))∧Below w.heap.size w w':=impl_varText.calls k n _ w (T.vI n h0 h1)
end
theorem rt2 {a b:ByteArray} {o:Bool} (h:a=b):Ending.returned (.tuple #[.string a,.bool o])= .returned (.tuple #[.string b,.bool o]):=by rw [h]
structure BoxAt (w w':World) (cs:List Value):Prop where
 box:w'.heap[w.heap.size]?=some (.cells cs.toArray 40 (0,0))
 bel:Below w.heap.size w w'
theorem BoxAt.step {w w' w2:World} {cs:List Value} (h:BoxAt w w' cs) (hb:Below w'.heap.size w' w2):BoxAt w w2 cs:=⟨zu h.box hb,zk h.bel hb⟩
end Go.Proofs.YtonhdiemjgdcnaaGreat.PFnExactGivePage
namespace Go.Proofs.YtonhdiemjgdcnaaGreat.PFnExactGivePage
open Go.RowKit Go.Proofs.YtonhdiemjgdcnaaGreatW.PrintWords Go.Proofs.YtonhdiemjgdcnaaGreatW.PrintLast Go.Proofs.YtonhdiemjgdcnaaGreatW.PrintMore
def enc (n:Nat):List Int:=if h:n<128 then [(n:Int)] else ((n%128+128:Nat):Int)::enc (n/128)
termination_by n
decreasing_by omega
theorem zzb {n:Nat} (h:n<128):enc n=[(n:Int)]:=by rw [enc,dif_pos h]
theorem enc_great {n:Nat} (h:¬n<128):enc n=((n%128+128:Nat):Int)::enc (n/128):=by rw [enc,dif_neg h]
theorem enc_len (i:Nat):∀n,n<128^(i+1)→(enc n).length≤i+1:=by
 induction i with
 |zero=>
  intro n hn
  rw [zzb (by simpa using hn)]
  simp
 |succ i ih=>
  intro n hn
  by_cases h:n<128
  ·rw [zzb h]
   simp
  ·rw [enc_great h,List.length_cons]
   have:=ih (n/128) (by
    rw [Nat.div_lt_iff_lt_mul zq14]
    rwa [←Nat.pow_succ])
   omega
theorem w64 {n:Int} (h0:0≤n) (h1:n<9223372036854775808):wrap64 n=n:=by unfold wrap64;omega
theorem l01Var_ev:∀(i n:Nat) (acc:List Int),n<128^(i+1)→acc.length+i<140737488355328→n<4611686018427387904→spec_l01Var.l0 (i+1) (n:Int) acc=some (strOfNums (acc++enc n)):=by
 intro i
 induction i with
 |zero=>
  intro n acc hn hl hb
  have h:n<128:=by simpa using hn
  simp only [spec_l01Var.l0]
  rw [if_neg zq5,if_pos zq5,zzb h,show (n:Int)%256=n by omega]
 |succ i ih=>
  intro n acc hn hl hb
  by_cases h:n<128
  ·simp only [spec_l01Var.l0]
   rw [if_neg zq5,if_pos zq5,zzb h,show (n:Int)%256=n by omega]
  ·have hd:n/128<128^(i+1):=by
    rw [Nat.div_lt_iff_lt_mul zq14]
    rwa [←Nat.pow_succ]
   have:=ih (n/128) (acc++[((n%128+128:Nat):Int)]) hd zq51 zq5
   rw [spec_l01Var.l0,if_pos zq5,if_pos zq5,enc_great h]
   rw [show wrap64 (Int.tdiv (n:Int) 128)=((n/128:Nat):Int) by
    rw [Int.tdiv_eq_ediv_of_nonneg zq5];unfold wrap64;omega]
   rw [show (wrap64 (Int.tmod (n:Int) 128+128))%256=((n%128+128:Nat):Int) by
    rw [Int.tmod_eq_emod_of_nonneg zq5];unfold wrap64;omega]
   rw [this]
   simp
namespace Crc
def st (s:Nat):Nat:=if s%2=1 then (s/2)^^^3558460437 else s/2
def st8 (s:Nat):Nat:=st (st (st (st (st (st (st (st s)))))))
def upd (s b:Nat):Nat:=st8 (s^^^b)
def sum (s:Nat) (l:List Nat):Nat:=l.foldl upd s
theorem st_lt {s:Nat} (h:s<2^32):st s<2^32:=by
 unfold st
 split
 ·exact Nat.xor_lt_two_pow zq5 zq14
 ·omega
theorem st8_lt {s:Nat} (h:s<2^32):st8 s<2^32:=by
 unfold st8
 exact st_lt (st_lt (st_lt (st_lt (st_lt (st_lt (st_lt (st_lt h)))))))
theorem upd_lt {s b:Nat} (hs:s<2^32) (hb:b<256):upd s b<2^32:=st8_lt (Nat.xor_lt_two_pow hs zq5)
end Crc
def zUa (s:ByteArray):List Nat:=(List.range s.size).map fun (j:Nat)=>(bt s (j:Int)).toNat
theorem natBytes_len (s:ByteArray):(zUa s).length=s.size:=by simp [zUa]
theorem natBytes_byte (s:ByteArray):∀b∈zUa s,b<256:=by
 intro b hb
 simp only [zUa,List.mem_map] at hb
 obtain ⟨j,_,rfl⟩:=hb
 have:=bt_range s (j:Int)
 omega
theorem natBytes_drop (s:ByteArray) (i:Nat) (h:i<s.size):(zUa s).drop i=(bt s (i:Int)).toNat::(zUa s).drop (i+1):=by
 rw [List.drop_eq_getElem_cons (by rw [natBytes_len];exact h)]
 simp [zUa]
theorem zmb (k s:Nat) (hs:s<4294967296) (x:ByteArray) (n i:Int) (j:Nat) (hj:j<8):impl_SumMore.l1 (k+1) (s:Int) x n i (j:Int)=impl_SumMore.l1 k ((Crc.st s:Nat):Int) x n i ((j+1:Nat):Int):=by
 have e1:wrap64 ((j:Int)+1)=((j+1:Nat):Int):=by rw [w64 zq5 zq5];omega
 have e2:Go.bits .and .u32 (s:Int) 1=((s%2:Nat):Int):=by
  have:=u32_and_nat s 1 hs zq14
  rw [Nat.and_one_is_mod] at this
  exact this
 have e3:(s:Int)/2=((s/2:Nat):Int):=by omega
 have e4:Go.bits .xor .u32 ((s/2:Nat):Int) 3558460437=(((s/2)^^^3558460437:Nat):Int):=u32_xor_nat (s/2) 3558460437 zq5 zq14
 have c0:(j:Int)<8:=by omega
 rw [impl_SumMore.l1,if_pos c0,e1,e2,e3,e4]
 unfold Crc.st
 by_cases h:s%2=1
 ·rw [if_pos (by rw [h];rfl),if_pos h]
 ·rw [if_neg (by intro q;apply h;omega),if_neg h]
theorem zob (k s:Nat) (hs:s<4294967296) (x:ByteArray) (i:Int) (j:Nat) (hj:j<8):spec_SumMore.l1 (k+1) (s:Int) x i (j:Int)=spec_SumMore.l1 k ((Crc.st s:Nat):Int) x i ((j+1:Nat):Int):=by
 have e1:wrap64 ((j:Int)+1)=((j+1:Nat):Int):=by rw [w64 zq5 zq5];omega
 have e2:Int.tmod (s:Int) 2=((s%2:Nat):Int):=by rw [Int.tmod_eq_emod_of_nonneg zq5];omega
 have e3:(Int.tdiv (s:Int) 2)%4294967296=((s/2:Nat):Int):=by rw [Int.tdiv_eq_ediv_of_nonneg zq5];omega
 have e4:Go.bits .xor .u32 ((s/2:Nat):Int) 3558460437=(((s/2)^^^3558460437:Nat):Int):=u32_xor_nat (s/2) 3558460437 zq5 zq14
 have c0:(j:Int)<8:=by omega
 rw [spec_SumMore.l1,if_pos c0,e1,e2,e3,e4]
 unfold Crc.st
 by_cases h:s%2=1
 ·rw [if_pos (by rw [h];rfl),if_pos h]
 ·rw [if_neg (by intro q;apply h;omega),if_neg h]
theorem st_lt' {s:Nat} (h:s<4294967296):Crc.st s<4294967296:=Crc.st_lt h
theorem impl_byte (k s:Nat) (hs:s<4294967296) (x:ByteArray) (n:Int) (i:Nat) (hi:(i:Int)<n) (hx:i<x.size) (hsz:x.size≤140737488351232):impl_SumMore.l0 (k+10) (s:Int) x n (i:Int)=impl_SumMore.l0 k ((Crc.upd s (bt x (i:Int)).toNat:Nat):Int) x n ((i+1:Nat):Int):=by
 obtain ⟨b,hb⟩:∃b:Nat,bt x (i:Int)=(b:Int):=⟨(bt x (i:Int)).toNat,(Int.toNat_of_nonneg (bt_range x (i:Int)).1).symm⟩
 have hb256:b<256:=by have:=(bt_range x (i:Int)).2;rw [hb] at this;omega
 have e0:(bt x (i:Int))%4294967296=(b:Int):=by rw [hb];omega
 have e1:Go.bits .xor .u32 (s:Int) (b:Int)=((s^^^b:Nat):Int):=u32_xor_nat s b hs zq5
 have e2:wrap64 ((i:Int)+1)=((i+1:Nat):Int):=by rw [w64 zq5 zq5];omega
 have c1:(0:Int)≤(i:Int):=by omega
 have c2:(i:Int)<(x.size:Int):=by omega
 have h0:s^^^b<4294967296:=Nat.xor_lt_two_pow (n:=32) hs zq5
 rw [impl_SumMore.l0,if_pos hi,if_pos c1,if_pos c2,e0,e1,hb,Int.toNat_natCast]
 have z:(0:Int)=((0:Nat):Int):=rfl
 rw [z,zmb _ _ h0 x n i 0 zq14,zmb _ _ (st_lt' h0) x n i 1 zq14,zmb _ _ (st_lt' (st_lt' h0)) x n i 2 zq14,zmb _ _ (st_lt' (st_lt' (st_lt' h0))) x n i 3 zq14,
  zmb _ _ (st_lt' (st_lt' (st_lt' (st_lt' h0)))) x n i 4 zq14,zmb _ _ (st_lt' (st_lt' (st_lt' (st_lt' (st_lt' h0))))) x n i 5 zq14,zmb _ _ (st_lt' (st_lt' (st_lt' (st_lt' (st_lt' (st_lt' h0)))))) x n i 6 zq14,zmb _ _ (st_lt' (st_lt' (st_lt' (st_lt' (st_lt' (st_lt' (st_lt' h0))))))) x n i 7 zq14]
 have c3:¬((7+1:Nat):Int)<8:=by decide
 rw [impl_SumMore.l1,if_neg c3,e2]
 rfl
theorem spec_byte (k s:Nat) (hs:s<4294967296) (x:ByteArray) (i:Nat) (hx:i<x.size) (hsz:x.size≤140737488351232):spec_SumMore.l0 (k+10) (s:Int) x (i:Int)=spec_SumMore.l0 k ((Crc.upd s (bt x (i:Int)).toNat:Nat):Int) x ((i+1:Nat):Int):=by
 obtain ⟨b,hb⟩:∃b:Nat,bt x (i:Int)=(b:Int):=⟨(bt x (i:Int)).toNat,(Int.toNat_of_nonneg (bt_range x (i:Int)).1).symm⟩
 have hb256:b<256:=by have:=(bt_range x (i:Int)).2;rw [hb] at this;omega
 have e0:(bt x (i:Int))%4294967296=(b:Int):=by rw [hb];omega
 have e1:Go.bits .xor .u32 (s:Int) (b:Int)=((s^^^b:Nat):Int):=u32_xor_nat s b hs zq5
 have e2:wrap64 ((i:Int)+1)=((i+1:Nat):Int):=by rw [w64 zq5 zq5];omega
 have c1:(0:Int)≤(i:Int):=by omega
 have c2:(i:Int)<(x.size:Int):=by omega
 have h0:s^^^b<4294967296:=Nat.xor_lt_two_pow (n:=32) hs zq5
 rw [spec_SumMore.l0,if_pos c2,if_pos c1,e0,e1,hb,Int.toNat_natCast]
 have z:(0:Int)=((0:Nat):Int):=rfl
 rw [z,zob _ _ h0 x i 0 zq14,zob _ _ (st_lt' h0) x i 1 zq14,zob _ _ (st_lt' (st_lt' h0)) x i 2 zq14,zob _ _ (st_lt' (st_lt' (st_lt' h0))) x i 3 zq14,
  zob _ _ (st_lt' (st_lt' (st_lt' (st_lt' h0)))) x i 4 zq14,zob _ _ (st_lt' (st_lt' (st_lt' (st_lt' (st_lt' h0))))) x i 5 zq14,zob _ _ (st_lt' (st_lt' (st_lt' (st_lt' (st_lt' (st_lt' h0)))))) x i 6 zq14,zob _ _ (st_lt' (st_lt' (st_lt' (st_lt' (st_lt' (st_lt' (st_lt' h0))))))) x i 7 zq14]
 have c3:¬((7+1:Nat):Int)<8:=by decide
 rw [spec_SumMore.l1,if_neg c3,e2]
 rfl
theorem sums (x:ByteArray) (hsz:x.size≤140737488351232):∀(d i s:Nat),i+d=x.size→s<4294967296→
  impl_SumMore.l0 (10*d+1) (s:Int) x (x.size:Int) (i:Int)=some ((Crc.sum s ((zUa x).drop i):Nat):Int)∧spec_SumMore.l0 (10*d+1) (s:Int) x (i:Int)=some ((Crc.sum s ((zUa x).drop i):Nat):Int):=by
 intro d
 induction d with
 |zero=>
  intro i s hi hs
  have hn:(zUa x).drop i=[]:=List.drop_eq_nil_of_le (by rw [natBytes_len];omega)
  have c:¬(i:Int)<(x.size:Int):=by omega
  rw [hn]
  exact ⟨by rw [impl_SumMore.l0,if_neg c];rfl,by rw [spec_SumMore.l0,if_neg c];rfl⟩
 |succ d ih=>
  intro i s hi hs
  have hlt:i<x.size:=by omega
  have hb:=natBytes_byte x (bt x (i:Int)).toNat (by
   have:=natBytes_drop x i hlt
   exact List.mem_of_mem_drop (i:=i) (by rw [this];simp))
  obtain ⟨h1,h2⟩:=ih (i+1) (Crc.upd s (bt x (i:Int)).toNat) zq5 (Crc.upd_lt hs hb)
  rw [show 10*(d+1)+1=10*d+1+10 by omega,impl_byte _ s hs x _ i zq5 hlt hsz,spec_byte _ s hs x i hlt hsz,natBytes_drop x i hlt]
  exact ⟨h1,h2⟩
def crcN (s:ByteArray):Nat:=Crc.sum 4294967295 (zUa s)
def sealN (s:ByteArray):ByteArray:=strOfNums [((crcN s:Nat):Int)/16777216%256,((crcN s:Nat):Int)/65536%256,((crcN s:Nat):Int)/256%256,((crcN s:Nat):Int)%256]
theorem seal_f (s:ByteArray) (hs:s.size≤140737488351232):impl_seal.f (10*s.size+1) s=some (sealN s)∧(spec_SumOf.f (10*s.size+1) s).bind spec_l02Four.f=some (sealN s):=by
 obtain ⟨h1,h2⟩:=sums s hs s.size 0 4294967295 zq5 zq14
 have z:((0:Nat):Int)=0:=rfl
 have y:((4294967295:Nat):Int)=4294967295:=rfl
 rw [z,y,List.drop_zero] at h1 h2
 unfold impl_seal.f impl_SumOf.f impl_SumMore.f spec_SumOf.f spec_SumMore.f
 rw [h1,h2]
 exact ⟨rfl,rfl⟩
theorem le_up {α:Type} {f:Nat→Option α} (h:∀k,LeO (f k) (f (k+1))) {k:Nat} {r:α} (hf:f k=some r):∀d,f (k+d)=some r
 |0=>hf
 |d+1=>h _ r (le_up h hf d)
theorem le_upto {α:Type} {f:Nat→Option α} (h:∀k,LeO (f k) (f (k+1))) {k K:Nat} {r:α} (hk:k≤K) (hf:f k=some r):f K=some r:=by
 obtain ⟨d,rfl⟩:=Nat.le.dest hk
 exact le_up h hf d
theorem or128:∀m:Fin 128,Go.bits .or .i64 ((m.val:Nat):Int) 128=((m.val+128:Nat):Int):=by decide+kernel
theorem varText_ev:∀(i n:Nat) (acc:List Int),n<128^(i+1)→acc.length+i<140737488355328→n<4611686018427387904→impl_varText.l0 (i+1) (n:Int) acc=some (strOfNums (acc++enc n)):=by
 intro i
 induction i with
 |zero=>
  intro n acc hn hl hb
  have h:n<128:=by simpa using hn
  simp only [impl_varText.l0]
  rw [if_neg zq5,if_pos zq5,zzb h,show (n:Int)%256=n by omega]
 |succ i ih=>
  intro n acc hn hl hb
  by_cases h:n<128
  ·simp only [impl_varText.l0]
   rw [if_neg zq5,if_pos zq5,zzb h,show (n:Int)%256=n by omega]
  ·have hd:n/128<128^(i+1):=by
    rw [Nat.div_lt_iff_lt_mul zq14]
    rwa [←Nat.pow_succ]
   have:=ih (n/128) (acc++[((n%128+128:Nat):Int)]) hd zq51 zq5
   rw [impl_varText.l0,if_pos zq5,if_pos zq5,enc_great h,i64_and127]
   rw [show ((n:Int)/128)=((n/128:Nat):Int) by omega]
   rw [show ((n:Int)%128)=((n%128:Nat):Int) by omega,or128 ⟨n%128,by omega⟩]
   rw [show (((n%128+128:Nat):Int))%256=((n%128+128:Nat):Int) by omega]
   rw [this]
   simp
def vtN (n:Int):ByteArray:=if 0≤n∧n≤100000 then strOfNums (enc n.toNat) else ⟨#[]⟩
theorem sealN_size (s:ByteArray):(sealN s).size=4:=by unfold sealN;rw [strOfNums_size];rfl
theorem txF:EvP (fun k=>TxF k vtN sealN):=by
 refine ⟨200001,fun k hk=>⟨fun n h0 h1=> ?_,fun n h0 h1=> ?_,fun n=> ?_,fun s hs=> ?_,fun s hs=> ?_,sealN_size⟩⟩
 ·refine le_upto (spec_l01Var.mono n) (show 3≤k by omega) ?_
  unfold spec_l01Var.f vtN
  rw [if_pos ⟨h0,h1⟩]
  obtain ⟨m,rfl⟩:=Int.eq_ofNat_of_zero_le h0
  exact l01Var_ev 2 m [] zq5 zq15 zq5
 ·refine le_upto (impl_varText.mono n) (show 3≤k by omega) ?_
  unfold impl_varText.f vtN
  rw [if_pos ⟨h0,h1⟩]
  obtain ⟨m,rfl⟩:=Int.eq_ofNat_of_zero_le h0
  exact varText_ev 2 m [] zq5 zq15 zq5
 ·unfold vtN
  split
  ·rename_i h
   rw [strOfNums_size]
   have:=enc_len 2 n.toNat zq5
   omega
  ·exact Nat.zero_le _
 ·obtain ⟨_,h2⟩:=seal_f s zq5
  refine le_upto (spec_Sealed.mono s) (show 10*s.size+1≤k by omega) ?_
  unfold spec_Sealed.f
  have c1:¬(s.size:Int)>20000:=by omega
  rw [if_neg c1]
  cases hq:spec_SumOf.f (10*s.size+1) s with
  |none=>rw [hq] at h2;cases h2
  |some q=>
   rw [hq,Option.bind_some] at h2
   have h4:=sealN_size s
   rw [Option.bind_some,h2,Option.bind_some,if_pos zq5]
 ·exact le_upto (impl_seal.mono s) (show 10*s.size+1≤k by omega) (seal_f s zq5).1
end Go.Proofs.YtonhdiemjgdcnaaGreat.PFnExactGivePage
