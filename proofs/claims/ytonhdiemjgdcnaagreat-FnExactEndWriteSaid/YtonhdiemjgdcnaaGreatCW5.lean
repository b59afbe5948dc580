import Derived.Test.YtonhdiemjgdcnaaGreatCW4
set_option maxHeartbeats 64000000
set_option maxRecDepth 100000
set_option linter.unusedVariables false
set_option linter.unusedSimpArgs false
namespace Go.Proofs
theorem zq37{P Q0 Q1:Prop}(q0:Q0)(q1:Q1)(h:Q0→Q1→P:=by intro q0 q1;(with_reducible repeat (first|refine zk ?_ _|refine zl ?_|refine zh ?_ _));refine zW (cs:= #[.int .i64 a0,.int .i64 a1,.int .i64 a2,.slice none 0 0]) ?_ 3 _ rfl;(with_reducible repeat (first|refine zk ?_ _|refine zl ?_|refine zh ?_ _));refine zW (cs:= #[.int .i64 a0,.int .i64 a1,.int .i64 0,.slice none 0 0]) ?_ 2 _ rfl;(with_reducible repeat (first|refine zk ?_ _|refine zl ?_|refine zh ?_ _));refine zW (cs:= #[.int .i64 a0,.int .i64 0,.int .i64 0,.slice none 0 0]) ?_ 1 _ rfl;(with_reducible repeat (first|refine zk ?_ _|refine zl ?_|refine zh ?_ _));refine zW (cs:= #[.int .i64 0,.int .i64 0,.int .i64 0,.slice none 0 0]) ?_ 0 _ rfl;(with_reducible repeat (first|refine zk ?_ _|refine zl ?_|refine zh ?_ _));refine zka ?_ q0 _;(with_reducible repeat (first|refine zk ?_ _|refine zl ?_|refine zh ?_ _));exact q1):P:=h q0 q1
theorem zq57{P Q0 Q1:Prop}(q0:Q0)(q1:Q1)(h:Q0→Q1→P:=by intro q0 q1;(with_reducible repeat (first|refine zk ?_ _|refine zl ?_|refine zh ?_ _));refine zka ?_ q0 _;(with_reducible repeat (first|refine zk ?_ _|refine zl ?_|refine zh ?_ _));refine zka ?_ q0 _;(with_reducible repeat (first|refine zk ?_ _|refine zl ?_|refine zh ?_ _));refine zka ?_ q0 _;(with_reducible repeat (first|refine zk ?_ _|refine zl ?_|refine zh ?_ _));exact q1):P:=h q0 q1
theorem zq75{P Q0:Prop}(q0:Q0)(h:Q0→P:=by intro q0;rw [hg];exact z8a (zP (g:=g0) (o:= .cells #[.int .i64 a0,.int .i64 a1,.int .i64 a2,.int .i64 a3,.slice A0 l2.length c0] 132 (0,0)) (by (with_reducible repeat (first|refine zk ?_ _|refine zl ?_|refine zh ?_ _));exact q0))):P:=h q0
theorem zq76{P Q0:Prop}(q0:Q0)(h:Q0→P:=by intro q0;rw [hg];exact z7a (zP (g:=g0) (o:= .cells #[.int .i64 a0,.int .i64 a1,.int .i64 a2,.int .i64 a3,.slice A0 l2.length c0] 132 (0,0)) (by (with_reducible repeat (first|refine zk ?_ _|refine zl ?_|refine zh ?_ _));exact q0))):P:=h q0
theorem zq77{P Q0:Prop}(q0:Q0)(h:Q0→P:=by intro q0;rw [hg];exact z8a (zP (g:=g0) (o:= .cells #[.int .i64 a0,.int .i64 a1,.int .i64 a2,.slice A0 l2.length c0] 24 (0,0)) (by (with_reducible repeat (first|refine zk ?_ _|refine zl ?_|refine zh ?_ _));exact q0))):P:=h q0
theorem zq78{P Q0:Prop}(q0:Q0)(h:Q0→P:=by intro q0;rw [hg];exact z7a (zP (g:=g0) (o:= .cells #[.int .i64 a0,.int .i64 a1,.int .i64 a2,.slice A0 l2.length c0] 24 (0,0)) (by (with_reducible repeat (first|refine zk ?_ _|refine zl ?_|refine zh ?_ _));exact q0))):P:=h q0
theorem zq83{P Q0:Prop}(q0:Q0)(h:Q0→P:=by intro q0;rw [hg];exact z8a (zP (g:=g1) (o:= .cells #[.int .i64 0,.int .i64 0,.int .i64 0,.slice none 0 0] 40 (0,0)) (by (with_reducible repeat (first|refine zk ?_ _|refine zl ?_|refine zh ?_ _));exact q0))):P:=h q0
theorem zq84{P Q0:Prop}(q0:Q0)(h:Q0→P:=by intro q0;rw [hg];exact z7a (zP (g:=g1) (o:= .cells #[.int .i64 0,.int .i64 0,.int .i64 0,.slice none 0 0] 40 (0,0)) (by (with_reducible repeat (first|refine zk ?_ _|refine zl ?_|refine zh ?_ _));exact q0))):P:=h q0
theorem zq92{P Q0:Prop}(q0:Q0)(h:Q0→P:=by intro q0;rw [hg];exact z8a (zP (g:=g0) (o:= .cells #[.int .i64 a0,.slice A0 l2.length c0] 140 (0,0)) (by (with_reducible repeat (first|refine zk ?_ _|refine zl ?_|refine zh ?_ _));exact q0))):P:=h q0
theorem zq93{P Q0:Prop}(q0:Q0)(h:Q0→P:=by intro q0;rw [hg];exact z7a (zP (g:=g0) (o:= .cells #[.int .i64 a0,.slice A0 l2.length c0] 140 (0,0)) (by (with_reducible repeat (first|refine zk ?_ _|refine zl ?_|refine zh ?_ _));exact q0))):P:=h q0
theorem zq102{P:Prop}(h:P:=by rw [List.getElem?_eq_getElem hlt] at hat;exact z6a hat):P:=h
theorem zq104{P:Prop}(h:P:=by rw [e3 i (Nat.lt_succ_self i),List.getElem?_set_self (by omega)]):P:=h
theorem zq106{P Q0:Prop}(q0:Q0)(h:Q0→P:=by intro q0;have h_:(x1:Int)<((x0.length:Int):Int):=z8 (by with_reducible assumption);first|exact h_|(have e_:=(Kd.S_reads' q0).1;omega)|simpa using h_):P:=h q0
theorem zq112{P Q0:Prop}(q0:Q0)(h:Q0→P:=by intro q0;(with_reducible repeat (first|apply Kd.S_alloc|apply Kd.S_drewN|apply Kd.S_drew));exact q0):P:=h q0
theorem zq136{P:Prop}(h:P:=by rw [List.length_set];omega):P:=h
theorem zq137{P:Prop}(h:P:=by simp only [if_pos ha];exact Ev.now _):P:=h
theorem zq139{P:Prop}(h:P:=by rw [Int.toNat_natCast];omega):P:=h
theorem zq187{P:Prop}(h:P:=by
 refine ⟨r,by rw [show (i:Int)+1=((i+1:Nat):Int) by omega];exact h2,?_⟩
 rcases h3 with h3|⟨h4,h5,h6⟩
 ·exact .inl h3
 ·refine .inr ⟨h4,zq9,fun j hj h=> ?_⟩
  by_cases e:j=i
  ·subst e;omega
  ·have:=h6 j hj zq9;omega):P:=h
theorem zq193{P:Prop}(h:P:=by
 exact ⟨ad,A4,c4,e,hc 0 _ rfl,by rw [←zmb _ _ 1 zq9];exact hc 1 _ rfl,by rw [←zmb _ _ 2 zq9];exact hc 2 _ rfl,by rw [←zmb _ _ 3 zq9];exact hc 3 _ rfl,by rw [←zmb _ _ 4 zq9];exact hc 4 _ rfl,l4,g4⟩):P:=h
theorem zq197{P:Prop}(h:P:=by
 rcases h3 with h3|⟨h4,h5,h6⟩
 ·exact .inl h3
 ·refine .inr ⟨h4,zq9,zq9,fun s hs=> ?_⟩
  obtain ⟨j,hj,rfl⟩:=List.getElem_of_mem hs
  have:=h6 j hj (z0b _)
  omega):P:=h
end Go.Proofs
namespace Go.Proofs.YtonhdiemjgdcnaaGreat.PFnExactGivePage
open Go.RowKit Go.Proofs.YtonhdiemjgdcnaaGreatW.PrintWords Go.Proofs.YtonhdiemjgdcnaaGreatW.PrintLast Go.Proofs.YtonhdiemjgdcnaaGreatW.PrintMore
attribute [local go_sem] zma zla zwa zxa zba zca zoa zna
theorem rdOf_nat {α:Type} (d:α) (xs:List α) (k:Nat) (hk:k<xs.length):zcc d xs (k:Int)=xs[k]:=by
 simp [zcc,List.getD_eq_getElem?_getD,List.getElem?_eq_getElem hk]
theorem rd_nat (xs:List Int) (k:Nat) (hk:k<xs.length):rd xs (k:Int)=xs[k]:=by
 simp [rd,List.getD_eq_getElem?_getD,List.getElem?_eq_getElem hk]
theorem rd_T110_nat (xs:List S110) (k:Nat) (hk:k<xs.length):zv xs (k:Int)=xs[k]:=by
 simp [zv,List.getD_eq_getElem?_getD,List.getElem?_eq_getElem hk]
theorem rd_T156_nat (xs:List S156) (k:Nat) (hk:k<xs.length):zHa xs (k:Int)=xs[k]:=by
 simp [zHa,List.getD_eq_getElem?_getD,List.getElem?_eq_getElem hk]
theorem zJ {x:Int} (h1: -9223372036854775808≤x) (h2:x≤9223372036854775807):wrap64 x=x:=by unfold wrap64;omega
theorem szS_go (l:List ByteArray) (hs:∀s∈l,s.size≤9223372036854775807) (hl:l.length≤9223372036854775807):∀(n i:Nat) (x:Int),i+n=l.length→0≤x→x≤1048576→∃r,laws_szStringS.l0 (n+1) l x (i:Int)=some r∧(r<0∨(0≤r∧r≤x∧∀j (hj:j<l.length),i≤j→(l[j].size:Int)≤x)):=by
 intro n
 induction n with
 |zero=>
  intro i x hi h0 h1
  refine ⟨x,?_,.inr ⟨h0,Int.le_refl _,fun j hj h=>by omega⟩⟩
  rw [laws_szStringS.l0,if_neg zq9]
 |succ n ih=>
  intro i x hi h0 h1
  have hlt:i<l.length:=zq9
  have hsz:=hs l[i] (List.getElem_mem hlt)
  rw [laws_szStringS.l0,if_pos zq9,if_pos zq9,rdOf_nat _ _ _ hlt,zJ zq9 zq9,zJ zq9 zq9]
  by_cases hneg:x-(l[i].size:Int)<0
  ·rw [if_pos hneg]
   exact ⟨-1,rfl,.inl zq9⟩
  ·rw [if_neg hneg]
   obtain ⟨r,h2,h3⟩:=ih (i+1) (x-(l[i].size:Int)) zq9 zq9 zq9
   exact zq187
theorem szS_ev (l:List ByteArray) (hs:∀s∈l,s.size≤9223372036854775807) (hl:l.length≤9223372036854775807) (x:Int) (h0:0≤x) (h1:x≤1048576):∃r,Ev (fun k=>laws_szStringS.f k l x) r∧(r<0∨(0≤r∧r≤x∧(l.length:Int)≤x∧∀s∈l,(s.size:Int)≤x)):=by
 by_cases hneg:x-(l.length:Int)<0
 ·refine ⟨-1,Ev.of (k:=0) (fun k=>laws_szStringS.mono _ _ k) ?_,.inl zq9⟩
  unfold laws_szStringS.f
  rw [zJ zq9 zq9,if_pos hneg]
 ·obtain ⟨r,h2,h3⟩:=szS_go l hs hl l.length 0 (x-(l.length:Int)) zq9 zq9 zq9
  refine ⟨r,Ev.of (k:=l.length+1) (fun k=>laws_szStringS.mono _ _ k) ?_,?_⟩
  ·unfold laws_szStringS.f
   rw [zJ zq9 zq9,if_neg hneg]
   exact h2
  ·exact zq197
theorem szP_go (l:List S156) (hs:∀s∈l,s.f1.size≤9223372036854775807) (hl:l.length≤9223372036854775807):∀(n i:Nat) (x:Int),i+n=l.length→0≤x→x≤1048576→∃r,laws_szPutS.l0 (n+1) l x (i:Int)=some r∧(r<0∨(0≤r∧r≤x∧∀j (hj:j<l.length),i≤j→(l[j].f1.size:Int)≤x)):=by
 intro n
 induction n with
 |zero=>
  intro i x hi h0 h1
  refine ⟨x,?_,.inr ⟨h0,Int.le_refl _,fun j hj h=>by omega⟩⟩
  rw [laws_szPutS.l0,if_neg zq9]
 |succ n ih=>
  intro i x hi h0 h1
  have hlt:i<l.length:=zq9
  have hsz:=hs l[i] (List.getElem_mem hlt)
  rw [laws_szPutS.l0,if_pos zq9,if_pos zq9,rd_T156_nat _ _ hlt,laws_szPut.f,zJ (x:=x-_) zq9 zq9,zJ (x:=(i:Int)+1) zq9 zq9]
  by_cases hneg:x-(l[i].f1.size:Int)<0
  ·rw [if_pos hneg,Option.bind_some,if_pos zq9]
   exact ⟨-1,rfl,.inl zq9⟩
  ·rw [if_neg hneg,Option.bind_some,if_neg hneg]
   obtain ⟨r,h2,h3⟩:=ih (i+1) (x-(l[i].f1.size:Int)) zq9 zq9 zq9
   exact zq187
theorem szP_ev (l:List S156) (hs:∀s∈l,s.f1.size≤9223372036854775807) (hl:l.length≤9223372036854775807) (x:Int) (h0:0≤x) (h1:x≤1048576):∃r,Ev (fun k=>laws_szPutS.f k l x) r∧(r<0∨(0≤r∧r≤x∧(l.length:Int)≤x∧∀s∈l,(s.f1.size:Int)≤x)):=by
 by_cases hneg:x-(l.length:Int)<0
 ·refine ⟨-1,Ev.of (k:=0) (fun k=>laws_szPutS.mono _ _ k) ?_,.inl zq9⟩
  unfold laws_szPutS.f
  rw [zJ zq9 zq9,if_pos hneg]
 ·obtain ⟨r,h2,h3⟩:=szP_go l hs hl l.length 0 (x-(l.length:Int)) zq9 zq9 zq9
  refine ⟨r,Ev.of (k:=l.length+1) (fun k=>laws_szPutS.mono _ _ k) ?_,?_⟩
  ·unfold laws_szPutS.f
   rw [zJ zq9 zq9,if_neg hneg]
   exact h2
  ·exact zq197
def Small (pages:List ByteArray) (late:List S156):Prop:=(pages.length≤1048576∧∀s∈pages,s.size≤1048576)∧(late.length≤1048576∧∀s∈late,s.f1.size≤1048576)
theorem set_front {α:Type} (l r:List α) (x y:α):(l++x::r).set l.length y=(l++[y])++r:=by
 rw [List.set_append_right _ _ (Nat.le_refl _),Nat.sub_self,List.set_cons_zero,List.append_assoc,List.singleton_append]
theorem toS_go (l:List ByteArray) (hl:l.length≤1048576):∀(n i:Nat),i+n=l.length→laws_toStringS.l0 (n+1) l (l.take i++List.replicate n (⟨#[]⟩:ByteArray)) (i:Int)=some l:=by
 intro n
 induction n with
 |zero=>
  intro i hi
  rw [laws_toStringS.l0,if_neg zq9,List.replicate_zero,List.append_nil,List.take_of_length_le zq9]
 |succ n ih=>
  intro i hi
  have hlt:i<l.length:=zq9
  have hti:(l.take i).length=i:=zq132
  rw [laws_toStringS.l0,if_pos zq9,if_pos zq9,if_pos zq117,rdOf_nat _ _ _ hlt,zJ zq9 zq9,Int.toNat_natCast,List.replicate_succ]
  have:=set_front (l.take i) (List.replicate n (⟨#[]⟩:ByteArray)) ⟨#[]⟩ l[i]
  rw [hti] at this
  rw [this,List.take_append_getElem hlt,show (i:Int)+1=((i+1:Nat):Int) by omega]
  exact ih (i+1) zq9
theorem toS_ev (l:List ByteArray) (hl:l.length≤1048576):Ev (fun k=>laws_toStringS.f k l) l:=by
 refine Ev.of (k:=l.length+1) (fun k=>laws_toStringS.mono _ k) ?_
 unfold laws_toStringS.f
 rw [if_pos zq9,if_pos zq139,Int.toNat_natCast]
 have:=toS_go l hl l.length 0 zq9
 simpa using this
def conv (x:S156):S110:=⟨x.f0,x.f1⟩
theorem toP_go (l:List S156) (hl:l.length≤1048576):∀(n i:Nat),i+n=l.length→laws_toPutS.l0 (n+1) l ((l.map conv).take i++List.replicate n z110) (i:Int)=some (l.map conv):=by
 intro n
 induction n with
 |zero=>
  intro i hi
  rw [laws_toPutS.l0,if_neg zq9,List.replicate_zero,List.append_nil,List.take_of_length_le (by rw [List.length_map];omega)]
 |succ n ih=>
  intro i hi
  have hlt:i<l.length:=zq9
  have hlt':i<(l.map conv).length:=by rw [List.length_map];exact hlt
  have hti:((l.map conv).take i).length=i:=by rw [List.length_take,List.length_map];omega
  rw [laws_toPutS.l0,if_pos zq9,if_pos zq9,rd_T156_nat _ _ hlt,laws_toPut.f,Option.bind_some,if_pos zq117,zJ zq9 zq9,Int.toNat_natCast,List.replicate_succ]
  have:=set_front ((l.map conv).take i) (List.replicate n z110) z110 (conv l[i])
  rw [hti] at this
  show laws_toPutS.l0 (n+1) l (((l.map conv).take i++z110::List.replicate n z110).set i (conv l[i])) _=_
  rw [this,show conv l[i]=(l.map conv)[i] by rw [List.getElem_map],List.take_append_getElem hlt',show (i:Int)+1=((i+1:Nat):Int) by omega]
  exact ih (i+1) zq9
theorem toP_ev (l:List S156) (hl:l.length≤1048576):Ev (fun k=>laws_toPutS.f k l) (l.map conv):=by
 refine Ev.of (k:=l.length+1) (fun k=>laws_toPutS.mono _ k) ?_
 unfold laws_toPutS.f
 rw [if_pos zq9,if_pos zq139,Int.toNat_natCast]
 have:=toP_go l hl l.length 0 zq9
 simpa using this
theorem toD_ev (pages:List ByteArray) (late:List S156) (h:Small pages late):Ev (fun k=>laws_toDisk.f k pages late) (pages,late.map conv):=
 Ev.bind (toS_ev pages h.1.1) (Ev.bind (toP_ev late h.2.1) (Ev.now _))
theorem eqS_go (l:List ByteArray) (hl:l.length≤2000000):∀(n i:Nat),i+n=l.length→laws_eqStringS.l0 (n+1) l l (i:Int)=some true:=by
 intro n
 induction n with
 |zero=>intro i hi;rw [laws_eqStringS.l0,if_neg zq9]
 |succ n ih=>
  intro i hi
  rw [laws_eqStringS.l0,if_pos zq9,if_pos zq9,if_pos zq9,if_pos rfl,zJ zq9 zq9,show (i:Int)+1=((i+1:Nat):Int) by omega]
  exact ih (i+1) zq9
theorem eqP_go (l:List S110) (hl:l.length≤2000000):∀(n i:Nat),i+n=l.length→laws_eqPutS.l0 (n+1) l l (i:Int)=some true:=by
 intro n
 induction n with
 |zero=>intro i hi;rw [laws_eqPutS.l0,if_neg zq9]
 |succ n ih=>
  intro i hi
  rw [laws_eqPutS.l0,if_pos zq9,if_pos zq9,if_pos zq9,laws_eqPut.f,if_pos rfl,if_pos rfl,Option.bind_some,if_pos rfl,zJ zq9 zq9,show (i:Int)+1=((i+1:Nat):Int) by omega]
  exact ih (i+1) zq9
theorem eqD_ev (pages:List ByteArray) (late:List S110) (h1:pages.length≤2000000) (h2:late.length≤2000000):Ev (fun k=>laws_eqDisk.f k pages late pages late) true:=by
 refine Ev.bind (a:=true) (Ev.of (k:=pages.length+1) (fun k=>laws_eqStringS.mono _ _ k) ?_) ?_
 ·unfold laws_eqStringS.f
  rw [if_pos rfl]
  exact eqS_go pages h1 pages.length 0 zq9
 ·simp only [if_true]
  refine Ev.bind (a:=true) (Ev.of (k:=late.length+1) (fun k=>laws_eqPutS.mono _ _ k) ?_) ?_
  ·unfold laws_eqPutS.f
   rw [if_pos rfl]
   exact eqP_go late h2 late.length 0 zq9
  ·simp only [if_true]
   exact Ev.now _
theorem eqI_go (l:List Int) (hl:l.length≤2000000):∀(n i:Nat),i+n=l.length→laws_eqIntS.l0 (n+1) l l (i:Int)=some true:=by
 intro n
 induction n with
 |zero=>intro i hi;rw [laws_eqIntS.l0,if_neg zq9]
 |succ n ih=>
  intro i hi
  rw [laws_eqIntS.l0,if_pos zq9,if_pos zq9,if_pos zq9,if_pos rfl,zJ zq9 zq9,show (i:Int)+1=((i+1:Nat):Int) by omega]
  exact ih (i+1) zq9
theorem eqI_ev (l:List Int) (hl:l.length≤2000000):Ev (fun k=>laws_eqIntS.f k l l) true:=by
 refine Ev.of (k:=l.length+1) (fun k=>laws_eqIntS.mono _ _ k) ?_
 unfold laws_eqIntS.f
 rw [if_pos rfl]
 exact eqI_go l hl l.length 0 zq9
theorem toI_go (l:List Int) (hl:l.length≤1048576):∀(n i:Nat),i+n=l.length→laws_toIntS.l0 (n+1) l (l.take i++List.replicate n 0) (i:Int)=some l:=by
 intro n
 induction n with
 |zero=>
  intro i hi
  rw [laws_toIntS.l0,if_neg zq9,List.replicate_zero,List.append_nil,List.take_of_length_le zq9]
 |succ n ih=>
  intro i hi
  have hlt:i<l.length:=zq9
  have hti:(l.take i).length=i:=zq132
  rw [laws_toIntS.l0,if_pos zq9,if_pos zq9,if_pos zq117,rd_nat _ _ hlt,zJ zq9 zq9,Int.toNat_natCast,List.replicate_succ]
  have:=set_front (l.take i) (List.replicate n (0:Int)) 0 l[i]
  rw [hti] at this
  rw [this,List.take_append_getElem hlt,show (i:Int)+1=((i+1:Nat):Int) by omega]
  exact ih (i+1) zq9
theorem toI_ev (l:List Int) (hl:l.length≤1048576):Ev (fun k=>laws_toIntS.f k l) l:=by
 refine Ev.of (k:=l.length+1) (fun k=>laws_toIntS.mono _ k) ?_
 unfold laws_toIntS.f
 rw [if_pos zq9,if_pos zq139,Int.toNat_natCast]
 have:=toI_go l hl l.length 0 zq9
 simpa using this
theorem mt_go:∀(n:Nat) (a:Int) (x:ByteArray),0≤a→a<10^n→a≤9223372036854775807→x.size+n≤1000→∃t,laws_markText.l0 (n+1) a x=some t:=by
 intro n
 induction n with
 |zero=>
  intro a x h0 h1 _ h2
  rw [laws_markText.l0,if_neg zq9,if_pos zq9]
  exact ⟨_,rfl⟩
 |succ n ih=>
  intro a x h0 h1 hb h2
  by_cases ha:a>0
  ·rw [laws_markText.l0,if_pos ha,Option.bind_some,if_pos (by rw [strOfNums_size];simp;omega)]
   have e:wrap64 (Int.tdiv a 10)=a/10:=by rw [Int.tdiv_eq_ediv_of_nonneg h0];exact zJ zq9 zq9
   rw [e]
   refine ih (a/10) _ zq9 ?_ zq9 ?_
   ·rw [Int.pow_succ] at h1
    omega
   ·rw [ByteArray.size_append,strOfNums_size]
    simp
    omega
  ·rw [laws_markText.l0,if_neg ha,if_pos zq9]
   exact ⟨_,rfl⟩
theorem mt_ex (a:Int) (h0:0<a) (h1:a≤4000000000000000000):∃t,Ev (fun k=>laws_markText.f k a) t:=by
 obtain ⟨t,ht⟩:=mt_go 19 a ⟨#[]⟩ zq9 (by have:(10:Int)^19=10000000000000000000:=zq31;omega) zq9 zq31
 refine ⟨t,Ev.of (k:=20) (fun k=>laws_markText.mono _ k) ?_⟩
 unfold laws_markText.f
 rw [if_neg zq9]
 exact ht
open Classical in
noncomputable def mt (a:Int):ByteArray:=if h:∃t,Ev (fun k=>laws_markText.f k a) t then Classical.choose h else ⟨#[]⟩
theorem mt_ev (a:Int) (h0:0<a) (h1:a≤4000000000000000000):Ev (fun k=>laws_markText.f k a) (mt a):=by
 unfold mt
 rw [dif_pos (mt_ex a h0 h1)]
 exact Classical.choose_spec (mt_ex a h0 h1)
def INd (pages:List ByteArray) (late:List S156):Prop:=(∀s∈pages,s.size≤9223372036854775807)∧pages.length≤9223372036854775807∧(∀s∈late,s.f1.size≤9223372036854775807)∧late.length≤9223372036854775807
theorem szDx (pages:List ByteArray) (late:List S156) (h:INd pages late) (x:Int) (h0:0≤x) (hx:x≤1048576):∃r,Ev (fun k=>laws_szDisk.f k pages late x) r∧(r<0∨(0≤r∧r≤x∧Small pages late)):=by
 obtain ⟨h1,h2,h3,h4⟩:=h
 obtain ⟨a,ea,ha⟩:=szS_ev pages h1 h2 x h0 hx
 rcases ha with ha|⟨a0,a1,a2,a3⟩
 ·exact ⟨-1,Ev.bind ea zq137,.inl zq9⟩
 ·obtain ⟨b,eb,hb⟩:=szP_ev late h3 h4 a a0 zq9
  rcases hb with hb|⟨b0,b1,b2,b3⟩
  ·exact ⟨-1,Ev.bind ea (by simp only [if_neg (show ¬a<0 by omega)];exact Ev.bind eb (by simp only [if_pos hb];exact Ev.now _)),.inl zq9⟩
  ·exact ⟨b,Ev.bind ea (by simp only [if_neg (show ¬a<0 by omega)];exact Ev.bind eb (by simp only [if_neg (show ¬b<0 by omega)];exact Ev.now _)),.inr ⟨b0,zq9,⟨zq9,fun s hs=>by have:=a3 s hs;omega⟩,⟨zq9,fun s hs=>by have:=b3 s hs;omega⟩⟩⟩
theorem szIx (l:List Int) (hl:l.length≤9223372036854775807) (x:Int) (h0:0≤x) (hx:x≤1048576):∃r,Ev (fun _=>laws_szIntS.f l x) r∧(r<0∨(0≤r∧r≤x∧l.length≤1048576)):=by
 unfold laws_szIntS.f
 rw [zJ zq9 zq9]
 by_cases h:x-(l.length:Int)<0
 ·exact ⟨-1,by rw [if_pos h];exact Ev.now _,.inl zq9⟩
 ·exact ⟨_,by rw [if_neg h];exact Ev.now _,.inr ⟨zq9,zq9,zq9⟩⟩
theorem sz_step {A:Nat→Option Int} {F:Nat→Int→Option Int} {x:Int} {P Q:Prop} (hA:∃r,Ev A r∧(r<0∨(0≤r∧r≤x∧P))) (hF:∀y,0≤y→y≤x→∃r,Ev (fun k=>F k y) r∧(r<0∨(0≤r∧r≤y∧Q))):∃r,Ev (fun k=>(A k).bind fun t=>if t<0 then some (-1) else F k t) r∧(r<0∨(0≤r∧r≤x∧P∧Q)):=by
 obtain ⟨a,ea,ha⟩:=hA
 rcases ha with ha|⟨a0,a1,a2⟩
 ·exact ⟨-1,Ev.bind ea zq137,.inl zq9⟩
 ·obtain ⟨b,eb,hb⟩:=hF a a0 a1
  refine ⟨b,Ev.bind ea (by simp only [if_neg (show ¬a<0 by omega)];exact eb),?_⟩
  rcases hb with hb|⟨b0,b1,b2⟩
  ·exact .inl hb
  ·exact .inr ⟨b0,zq9,a2,b2⟩
theorem sz_end {A:Nat→Option Int} {x:Int} {P:Prop} (hA:∃r,Ev A r∧(r<0∨(0≤r∧r≤x∧P))):∃r,Ev (fun k=>(A k).bind fun t=>if t<0 then some (-1) else some t) r∧(r<0∨(0≤r∧r≤x∧P)):=by
 obtain ⟨a,ea,ha⟩:=hA
 rcases ha with ha|⟨a0,a1,a2⟩
 ·exact ⟨-1,Ev.bind ea zq137,.inl zq9⟩
 ·exact ⟨a,Ev.bind ea (by simp only [if_neg (show ¬a<0 by omega)];exact Ev.now _),.inr ⟨a0,a1,a2⟩⟩
def INi (l:List Int):Prop:=l.length≤9223372036854775807
theorem szWx (pages:List ByteArray) (late:List S156) (n:Int) (u g f:List Int) (hd:INd pages late) (hu:INi u) (hg:INi g) (hf:INi f) (x:Int) (h0:0≤x) (hx:x≤1048576):∃r,Ev (fun k=>laws_szWork.f k pages late n u g f x) r∧(r<0∨(0≤r∧r≤x∧Small pages late∧u.length≤1048576∧g.length≤1048576∧f.length≤1048576)):=by
 unfold laws_szWork.f
 exact sz_step (szDx pages late hd x h0 hx) fun y y0 y1=>sz_step (szIx u hu y y0 zq9) fun z z0 z1=>sz_step (szIx g hg z z0 zq9) fun t t0 t1=>sz_end (szIx f hf t t0 zq9)
theorem rd135 (xs:List S110) (i:Nat) (h:i<xs.length):zv xs (i:Int)=xs[i]:=rd_T110_nat xs i h
theorem mhS:∀(n i:Nat) (l:List ByteArray) (a:Int),i+n=l.length→0<a→a+n<4000000000000000000→l.length≤2000000→∃l',Ev (fun k=>laws_markStringS.l0 k l a (i:Int)) (a+n,l')∧l'.length=l.length∧(∀j,j<i→l'[j]?=l[j]?)∧Ev (fun k=>laws_heldStringS.l0 k l' a (i:Int)) (a+n):=by
 intro n
 induction n with
 |zero=>
  intro i l a hi h0 h1 hl
  refine ⟨l,Ev.step (f:=fun _=>some (a+((0:Nat):Int),l)) (fun k=> ?_) (Ev.now _),rfl,fun _ _=>rfl,Ev.step (f:=fun _=>some (a+((0:Nat):Int))) (fun k=> ?_) (Ev.now _)⟩
  ·rw [laws_markStringS.l0,if_neg zq9]
   simp
  ·rw [laws_heldStringS.l0,if_neg zq9]
   simp
 |succ n ih=>
  intro i l a hi h0 h1 hl
  obtain ⟨l',e1,e2,e3,e4⟩:=ih (i+1) (l.set i (mt a)) (a+1) zq136 zq9 zq9 (by rw [List.length_set];exact hl)
  rw [List.length_set] at e2
  have hat:l'[i]?=some (mt a):=zq104
  have hlt:i<l'.length:=zq9
  have hget:l'[i]=mt a:=zq102
  have hn:a+1+(n:Int)=a+((n+1:Nat):Int):=zq9
  rw [hn] at e1 e4
  refine ⟨l',Ev.step (f:=fun k=>(laws_markText.f k a).bind fun t=>laws_markStringS.l0 k (l.set i t) (a+1) ((i+1:Nat):Int)) (fun k=> ?_) (Ev.bind (mt_ev a h0 zq9) e1),e2,fun j hj=> ?_,Ev.step (f:=fun k=>(laws_markText.f k a).bind fun t=>if (mt a).toList=t.toList then laws_heldStringS.l0 k l' (a+1) ((i+1:Nat):Int) else none) (fun k=> ?_) (Ev.bind (mt_ev a h0 zq9) (by simp only [if_true];exact e4))⟩
  ·rw [laws_markStringS.l0,if_pos zq9]
   congr 1
   funext t
   rw [if_pos zq9,zJ zq9 zq9,zJ zq9 zq9,Int.toNat_natCast]
   rfl
  ·rw [e3 j zq9,List.getElem?_set_ne zq9]
  ·rw [laws_heldStringS.l0,if_pos zq9,if_pos zq9,rdOf_nat _ _ _ hlt,hget,zJ (x:=a+1) zq9 zq9,zJ (x:=(i:Int)+1) zq9 zq9]
   rfl
theorem mhP:∀(n i:Nat) (l:List S110) (a:Int),i+n=l.length→0<a→a+2*n<4000000000000000000→l.length≤2000000→∃l',Ev (fun k=>laws_markPutS.l0 k l a (i:Int)) (a+2*n,l')∧l'.length=l.length∧(∀j,j<i→l'[j]?=l[j]?)∧Ev (fun k=>laws_heldPutS.l0 k l' a (i:Int)) (a+2*n):=by
 intro n
 induction n with
 |zero=>
  intro i l a hi h0 h1 hl
  refine ⟨l,Ev.step (f:=fun _=>some (a+2*((0:Nat):Int),l)) (fun k=> ?_) (Ev.now _),rfl,fun _ _=>rfl,Ev.step (f:=fun _=>some (a+2*((0:Nat):Int))) (fun k=> ?_) (Ev.now _)⟩
  ·rw [laws_markPutS.l0,if_neg zq9]
   simp
  ·rw [laws_heldPutS.l0,if_neg zq9]
   simp
 |succ n ih=>
  intro i l a hi h0 h1 hl
  obtain ⟨l1,hl1⟩:∃z,z=l.set i (⟨a,(zv l i).f1⟩:S110):=⟨_,rfl⟩
  have hs:l1.length=l.length:=by rw [hl1,List.length_set]
  have h10:(zv l1 i).f0=a:=by
   rw [rd135 l1 i zq9]
   simp [hl1]
  obtain ⟨l',e1,e2,e3,e4⟩:=ih (i+1) (l1.set i (⟨a,mt (a+1)⟩:S110)) (a+2) (by rw [List.length_set,hs];omega) zq9 zq9 (by rw [List.length_set,hs];exact hl)
  rw [List.length_set,hs] at e2
  have hlt:i<l'.length:=zq9
  have hat:l'[i]?=some (⟨a,mt (a+1)⟩:S110):=zq104
  have hget:l'[i]=(⟨a,mt (a+1)⟩:S110):=zq102
  have hn:a+2+2*(n:Int)=a+2*((n+1:Nat):Int):=zq9
  rw [hn] at e1 e4
  refine ⟨l',Ev.step (f:=fun k=>(laws_markText.f k (a+1)).bind fun t=>laws_markPutS.l0 k (l1.set i (⟨a,t⟩:S110)) (a+2) ((i+1:Nat):Int)) (fun k=> ?_) (Ev.bind (mt_ev (a+1) zq9 zq9) e1),e2,fun j hj=> ?_,Ev.step (f:=fun k=>(laws_markText.f k (a+1)).bind fun t=>if (mt (a+1)).toList=t.toList then laws_heldPutS.l0 k l' (a+2) ((i+1:Nat):Int) else none) (fun k=> ?_) (Ev.bind (mt_ev (a+1) zq9 zq9) (by simp only [if_true];exact e4))⟩
  ·rw [laws_markPutS.l0,if_pos zq9,if_pos zq9,Option.bind_some,Int.toNat_natCast,←hl1,h10,zJ (x:=a+1) zq9 zq9,zJ (x:=a+1+1) zq9 zq9,zJ (x:=(i:Int)+1) zq9 zq9,show a+1+1=a+2 by omega]
   rfl
  ·rw [e3 j zq9,List.getElem?_set_ne zq9,hl1,List.getElem?_set_ne zq9]
  ·rw [laws_heldPutS.l0,if_pos zq9,if_pos zq9,rd135 _ _ hlt,hget,if_pos rfl,zJ (x:=a+1) zq9 zq9,zJ (x:=a+1+1) zq9 zq9,zJ (x:=(i:Int)+1) zq9 zq9,show a+1+1=a+2 by omega]
   rfl
theorem mhI:∀(n i:Nat) (l:List Int) (a:Int),i+n=l.length→0<a→a+n<4000000000000000000→l.length≤2000000→∃l',Ev (fun k=>laws_markIntS.l0 k l a (i:Int)) (a+n,l')∧l'.length=l.length∧(∀j,j<i→l'[j]?=l[j]?)∧Ev (fun k=>laws_heldIntS.l0 k l' a (i:Int)) (a+n):=by
 intro n
 induction n with
 |zero=>
  intro i l a hi h0 h1 hl
  refine ⟨l,Ev.step (f:=fun _=>some (a+((0:Nat):Int),l)) (fun k=> ?_) (Ev.now _),rfl,fun _ _=>rfl,Ev.step (f:=fun _=>some (a+((0:Nat):Int))) (fun k=> ?_) (Ev.now _)⟩
  ·rw [laws_markIntS.l0,if_neg zq9]
   simp
  ·rw [laws_heldIntS.l0,if_neg zq9]
   simp
 |succ n ih=>
  intro i l a hi h0 h1 hl
  obtain ⟨l',e1,e2,e3,e4⟩:=ih (i+1) (l.set i a) (a+1) zq136 zq9 zq9 (by rw [List.length_set];exact hl)
  rw [List.length_set] at e2
  have hat:l'[i]?=some a:=zq104
  have hlt:i<l'.length:=zq9
  have hget:l'[i]=a:=zq102
  have hn:a+1+(n:Int)=a+((n+1:Nat):Int):=zq9
  rw [hn] at e1 e4
  refine ⟨l',Ev.step (f:=fun k=>laws_markIntS.l0 k (l.set i a) (a+1) ((i+1:Nat):Int)) (fun k=> ?_) e1,e2,fun j hj=> ?_,Ev.step (f:=fun k=>laws_heldIntS.l0 k l' (a+1) ((i+1:Nat):Int)) (fun k=> ?_) e4⟩
  ·rw [laws_markIntS.l0,if_pos zq9,if_pos zq9,zJ zq9 zq9,zJ zq9 zq9,Int.toNat_natCast]
   rfl
  ·rw [e3 j zq9,List.getElem?_set_ne zq9]
  ·rw [laws_heldIntS.l0,if_pos zq9,if_pos zq9,rd_nat _ _ hlt,hget,if_pos rfl,zJ (x:=a+1) zq9 zq9,zJ (x:=(i:Int)+1) zq9 zq9]
   rfl
theorem mhI_ev (l:List Int) (a:Int) (h0:0<a) (h1:a+l.length<4000000000000000000) (hl:l.length≤2000000):∃l',Ev (fun k=>laws_markIntS.f k l a) (a+l.length,l')∧Ev (fun k=>laws_heldIntS.f k l' a) (a+l.length):=by
 obtain ⟨l',e1,_,_,e4⟩:=mhI l.length 0 l a zq9 h0 h1 hl
 exact ⟨l',e1,e4⟩
theorem mhD_ev (p:List ByteArray) (q:List S110) (a:Int) (h0:0<a) (h1:a+10000000<4000000000000000000) (hp:p.length≤2000000) (hq:q.length≤2000000):∃p' q',Ev (fun k=>laws_markDisk.f k p q a) (a+p.length+2*q.length,p',q')∧Ev (fun k=>laws_heldDisk.f k p' q' a) (a+p.length+2*q.length):=by
 obtain ⟨p',e1,_,_,e4⟩:=mhS p.length 0 p a zq9 h0 zq9 hp
 obtain ⟨q',g1,_,_,g4⟩:=mhP q.length 0 q (a+p.length) zq9 zq9 zq9 hq
 refine ⟨p',q',Ev.bind e1 (Ev.bind g1 (Ev.now _)),?_⟩
 refine Ev.bind e4 ?_
 simp only [if_neg (show ¬a+(p.length:Int)<0 by omega)]
 refine Ev.bind g4 ?_
 simp only [if_neg (show ¬a+(p.length:Int)+2*(q.length:Int)<0 by omega)]
 exact Ev.now _
theorem hld {F:Nat→Option Int} {G:Nat→Int→Option Int} {x r:Int} (h:Ev F x) (h0:0≤x) (h2:Ev (fun k=>G k x) r):Ev (fun k=>(F k).bind fun t=>if t<0 then none else G k t) r:=Ev.bind h (by simp only [if_neg (show ¬x<0 by omega)];exact h2)
end Go.Proofs.YtonhdiemjgdcnaaGreat.PFnExactGivePage
namespace Go.Proofs.YtonhdiemjgdcnaaGreat.Own
open Go.RowKit Go.Proofs.YtonhdiemjgdcnaaGreatW.PrintWords Go.Proofs.YtonhdiemjgdcnaaGreatW.PrintLast Go.Proofs.YtonhdiemjgdcnaaGreatW.PrintMore
theorem tagQ {α:Type} {d:Kd α} {f:Nat→Nat} {e base:Nat} {w:World} {ok:Nat→Prop} {v:Value} {xs:List α} (h:(Kd.tag f d).Q e w base ok v xs.zipIdx):d.Q e w base ok v xs:=by
 obtain ⟨h0,inner,ho,hr⟩:=h
 rw [List.length_zipIdx] at ho
 exact ⟨h0,inner,ho,by have:=hr.1;rw [List.length_zipIdx] at this;exact this,fun j p hj=>d.M_mono (fun _ hk=>⟨hk.1.1,hk.1.2⟩) (hr.2 j (p,j) (Kd.zip_at hj))⟩
def apair {α β:Type} (a:Kd α) (b:Kd β):Kd (α×β) where
 sz:=a.sz+b.sz
 E:=a.E++b.E
 K:=fun w x cs=>∃c0 c1,cs=c0++c1∧a.K w x.1 c0∧b.K w x.2 c1
 M:=fun w base ok x cs=>∃c0 c1,∃f:Nat→Bool,cs=c0++c1∧a.M w base (fun k=>ok k∧f k=true) x.1 c0∧b.M w base (fun k=>ok k∧f k=false) x.2 c1
 K_len:=by
  rintro w x cs ⟨c0,c1,rfl,h0,h1⟩
  rw [List.length_append,a.K_len h0,b.K_len h1]
 K_one:=by
  rintro w x cs ⟨c0,c1,rfl,h0,h1⟩ u hu
  rcases List.mem_append.1 hu with hu|hu
  ·exact a.K_one h0 u hu
  ·exact b.K_one h1 u hu
 K_below:=by
  rintro w w1 x cs hb ⟨c0,c1,rfl,h0,h1⟩
  exact ⟨c0,c1,rfl,a.K_below hb h0,b.K_below hb h1⟩
 K_of_M:=by
  rintro w base ok x cs ⟨c0,c1,f,rfl,h0,h1⟩
  exact ⟨c0,c1,rfl,a.K_of_M h0,b.K_of_M h1⟩
 M_mono:=by
  rintro w base ok ok' x cs hok ⟨c0,c1,f,rfl,h0,h1⟩
  exact ⟨c0,c1,f,rfl,a.M_mono (fun k hk=>⟨hok k hk.1,hk.2⟩) h0,b.M_mono (fun k hk=>⟨hok k hk.1,hk.2⟩) h1⟩
 M_bound:=by
  rintro w base ok x cs ⟨c0,c1,f,rfl,h0,h1⟩
  refine ⟨c0,c1,f,rfl,a.M_mono ?_ (a.M_bound h0),b.M_mono ?_ (b.M_bound h1)⟩
  ·rintro k ⟨⟨h2,h2'⟩,h3,h4,q,hq,hc⟩
   exact ⟨⟨h2,h3,h4,q,List.mem_append_left _ hq,hc⟩,h2'⟩
  ·rintro k ⟨⟨h2,h2'⟩,h3,h4,q,hq,hc⟩
   exact ⟨⟨h2,h3,h4,q,List.mem_append_right _ hq,hc⟩,h2'⟩
 M_move:=by
  rintro w w1 base ok x cs hm ⟨c0,c1,f,rfl,h0,h1⟩
  exact ⟨c0,c1,f,rfl,a.M_move (fun k hk=>hm k hk.1) h0,b.M_move (fun k hk=>hm k hk.1) h1⟩
 M_lower:=by
  rintro w base base' ok x cs hb ⟨c0,c1,f,rfl,h0,h1⟩
  exact ⟨c0,c1,f,rfl,a.M_lower hb h0,b.M_lower hb h1⟩
def arow {α:Type} (e:Nat) (d:Kd α):Kd (List α) where
 sz:=1
 E:=e::d.E
 K:=fun w xs cs=>∃A c,cs=[.slice A xs.length c]∧xs.length≤c∧d.C w A xs.length xs
 M:=fun w base ok xs cs=>∃v,∃f:Nat→Nat,cs=[v]∧(Kd.tag f d).Q e w base ok v xs.zipIdx
 K_len:=by
  rintro w x cs ⟨A,c,rfl,_⟩
  rfl
 K_one:=by
  rintro w x cs ⟨A,c,rfl,_⟩ u hu
  rw [List.mem_singleton.1 hu]
  rfl
 K_below:=by
  rintro w w1 x cs hb ⟨A,c,rfl,hl,hr⟩
  exact ⟨A,c,rfl,hl,Kd.C_below hr hb⟩
 K_of_M:=by
  rintro w base ok x cs ⟨v,f,rfl,h⟩
  obtain ⟨A,c,rfl,hl,hr⟩:=Kd.Q_reads (tagQ h)
  exact ⟨A,c,rfl,hl,hr⟩
 M_mono:=by
  rintro w base ok ok' x cs hok ⟨v,f,rfl,h⟩
  exact ⟨v,f,rfl,Kd.Q_mono h hok⟩
 M_bound:=by
  rintro w base ok x cs ⟨v,f,rfl,h⟩
  exact ⟨v,f,rfl,Kd.Q_bound h⟩
 M_move:=by
  rintro w w1 base ok x cs hm ⟨v,f,rfl,h⟩
  exact ⟨v,f,rfl,Kd.Q_move h hm⟩
 M_lower:=by
  rintro w base base' ok x cs hb ⟨v,f,rfl,h⟩
  exact ⟨v,f,rfl,Kd.Q_lower h hb⟩
theorem flatM {α:Type} {d:Kd α} (hE:d.E=[]) {w:World} {base:Nat} {ok ok':Nat→Prop} {x:α} {cs:List Value} (h:d.M w base ok x cs):d.M w base ok' x cs:=
 d.M_mono (fun k hk=>by
  obtain ⟨_,_,_,q,hq,_⟩:=hk
  rw [hE] at hq
  cases hq) (d.M_bound h)
theorem arow_of_Q {α:Type} {d:Kd α} (hE:d.E=[]) {e base:Nat} {w:World} {ok:Nat→Prop} {v:Value} {xs:List α} (h:d.Q e w base ok v xs):(arow e d).M w base ok xs [v]:=by
 obtain ⟨h0,inner,ho,hr⟩:=h
 refine ⟨v,fun _=>0,rfl,h0,inner,by rw [List.length_zipIdx];exact ho,by rw [List.length_zipIdx];exact hr.1,fun j p hj=> ?_⟩
 rw [List.getElem?_zipIdx] at hj
 obtain ⟨a,ha,rfl⟩:=Option.map_eq_some_iff.1 hj
 exact flatM hE (hr.2 j a ha)
theorem arow_of_S {α:Type} {d:Kd α} {e base:Nat} {w:World} {ok:Nat→Prop} {v:Value} {xs:List α} (h:Kd.S d e w base ok v xs):(arow e d).M w base ok xs [v]:=by
 obtain ⟨f,h⟩:=h
 exact ⟨v,f,rfl,Kd.Q_of_R h⟩
def srow {α:Type} (e:Nat) (d:Kd α):Kd (List α) where
 sz:=1
 E:=e::d.E
 K:=fun w xs cs=>∃A c,cs=[.slice A xs.length c]∧xs.length≤c∧d.C w A xs.length xs
 M:=fun w base ok xs cs=>∃v,cs=[v]∧Kd.S d e w base ok v xs
 K_len:=by
  rintro w x cs ⟨A,c,rfl,_⟩
  rfl
 K_one:=by
  rintro w x cs ⟨A,c,rfl,_⟩ u hu
  rw [List.mem_singleton.1 hu]
  rfl
 K_below:=by
  rintro w w1 x cs hb ⟨A,c,rfl,hl,hr⟩
  exact ⟨A,c,rfl,hl,Kd.C_below hr hb⟩
 K_of_M:=by
  rintro w base ok x cs ⟨v,rfl,h⟩
  obtain ⟨A,c,rfl,hl,hr⟩:=Kd.R_reads (Kd.S_R h)
  exact ⟨A,c,rfl,hl,hr⟩
 M_mono:=by
  rintro w base ok ok' x cs hok ⟨v,rfl,h⟩
  exact ⟨v,rfl,Kd.S_mono h hok⟩
 M_bound:=by
  rintro w base ok x cs ⟨v,rfl,h⟩
  exact ⟨v,rfl,Kd.S_bound h⟩
 M_move:=by
  rintro w w1 base ok x cs hm ⟨v,rfl,h⟩
  exact ⟨v,rfl,Kd.S_move h hm⟩
 M_lower:=by
  rintro w base base' ok x cs hb ⟨v,rfl,h⟩
  exact ⟨v,rfl,Kd.S_lower h hb⟩
theorem srow_of_R {α:Type} {d:Kd α} (hE:d.E=[]) {e base:Nat} {w:World} {ok:Nat→Prop} {v:Value} {xs:List α} (h:d.R e w base ok v xs):(srow e d).M w base (fun k=>some k=v.ownBlock) xs [v]:=by
 refine ⟨v,rfl,fun _=>0,?_⟩
 obtain ⟨h0,inner,ho,hr⟩:=Kd.R_tight hE h
 refine ⟨h0,inner,by rw [List.length_zipIdx];exact ho,by rw [List.length_zipIdx];exact hr.1,fun j p hj=> ?_⟩
 rw [List.getElem?_zipIdx] at hj
 obtain ⟨a,ha,rfl⟩:=Option.map_eq_some_iff.1 hj
 exact flatM hE (hr.2 j a ha)
theorem Q_tight {α:Type} {d:Kd α} (hE:d.E=[]) {e base:Nat} {w:World} {ok:Nat→Prop} {v:Value} {xs:List α} (h:d.Q e w base ok v xs):d.Q e w base (fun k=>some k=v.ownBlock) v xs:=by
 obtain ⟨h0,inner,ho,hr⟩:=h
 exact ⟨fun k hk=>hk.symm,inner,ho,hr.imp_ (fun p c hp=>flatM hE hp)⟩
open Classical in
theorem apair_mk {α β:Type} {a:Kd α} {b:Kd β} {w:World} {base:Nat} {ok okA okB:Nat→Prop} {x:α} {y:β} {c0 c1:List Value} (ha:a.M w base okA x c0) (hb:b.M w base okB y c1) (hA:∀k,okA k→ok k) (hB:∀k,okB k→ok k) (hd:∀k,okA k→¬okB k):
  (apair a b).M w base ok (x,y) (c0++c1):=by
 refine ⟨c0,c1,fun k=>decide (okA k),rfl,a.M_mono (fun k hk=>⟨hA k hk,z6 hk⟩) ha,b.M_mono (fun k hk=>⟨hB k hk,z7 (fun h=>hd k h hk)⟩) hb⟩
theorem apair_open {α β:Type} {a:Kd α} {b:Kd β} {w:World} {base:Nat} {ok:Nat→Prop} {x:α} {y:β} {cs:List Value} (h:(apair a b).M w base ok (x,y) cs):
  ∃c0 c1,∃okA okB:Nat→Prop,cs=c0++c1∧a.M w base okA x c0∧b.M w base okB y c1∧(∀k,okA k→ok k)∧(∀k,okB k→ok k)∧(∀k,okA k→¬okB k):=by
 obtain ⟨c0,c1,f,rfl,ha,hb⟩:=h
 exact ⟨c0,c1,_,_,rfl,ha,hb,fun k hk=>hk.1,fun k hk=>hk.1,fun k hk h2=>by have h1:=hk.2;rw [h2.2] at h1;cases h1⟩
theorem R_tightB {α:Type} {d:Kd α} (hE:d.E=[]) {e base:Nat} {w:World} {ok:Nat→Prop} {v:Value} {xs:List α} (h:d.R e w base ok v xs):d.R e w base (fun k=>some k=v.ownBlock) v xs∧(∀k,some k=v.ownBlock→base≤k∧k<w.heap.size)∧(∀k,some k=v.ownBlock→∃cells,w.heap[k]?=some (.cells cells e (0,0))):=
 ⟨Kd.R_tight hE h,fun k hk=>⟨Kd.R_base h k hk.symm,Kd.R_lt h k hk.symm⟩,fun k hk=>Kd.R_typed h k hk.symm⟩
theorem types_ne {w:World} {p q:Nat→Prop} {e e':Nat} (h:∀k,p k→∃cells,w.heap[k]?=some (.cells cells e (0,0))) (h':∀k,q k→∃cells,w.heap[k]?=some (.cells cells e' (0,0))) (hn:e≠e'):∀k,p k→¬q k:=by
 intro k hp hq
 obtain ⟨c,hc⟩:=h k hp
 obtain ⟨c',hc'⟩:=h' k hq
 rw [hc] at hc'
 injection hc' with hc'
 injection hc' with _ hc'
 exact hn hc'
theorem R_tight2 {α:Type} {d:Kd α} (hE:d.E=[]) {e base:Nat} {w:World} {ok P:Nat→Prop} {v:Value} {xs:List α} (h:d.R e w base ok v xs) (hP:∀k,v.ownBlock=some k→P k):d.R e w base P v xs:=Kd.R_mono (Kd.R_tight hE h) (fun k hk=>hP k hk.symm)
theorem Q_tight2 {α:Type} {d:Kd α} (hE:d.E=[]) {e base:Nat} {w:World} {ok P:Nat→Prop} {v:Value} {xs:List α} (h:d.Q e w base ok v xs) (hP:∀k,v.ownBlock=some k→P k):d.Q e w base P v xs:=Kd.Q_mono (Q_tight hE h) (fun k hk=>hP k hk.symm)
theorem below_more {w0 w:World} (h:Below w0.heap.size w0 w) (o:Obj):Below w0.heap.size w0 (w.alloc o):=zo h o
end Go.Proofs.YtonhdiemjgdcnaaGreat.Own
namespace Go.Proofs.YtonhdiemjgdcnaaGreat.PFnExactGivePage
open Go.RowKit Go.Proofs.YtonhdiemjgdcnaaGreatW.PrintWords Go.Proofs.YtonhdiemjgdcnaaGreatW.PrintLast Go.Proofs.YtonhdiemjgdcnaaGreatW.PrintMore
attribute [local go_sem] zma zla zwa zxa zba zca zoa zna
theorem info135:(Tryz.prog.info? 135).map (fun i=>(i.zero,i.size,i.bytes))=some (some (.agg #[(.int .i64 0),(.int .i64 0),(.int .i64 0),(.int .i64 0),(.slice none 0 0)]),5,56):=zq13
theorem info112:(Tryz.prog.info? 112).map (fun i=>(i.zero,i.size,i.bytes))=some (some (.agg #[(.int .i64 0),(.slice none 0 0)]),2,32):=zq13
structure S112 where
 f0:Int
 f1:(List Int)
def z112:S112:=⟨(0:Int),([]:List Int)⟩
def k112:Kd S112:=Kd.iso (Kd.pair (Kd.int .i64) (Kd.slice 3 (Kd.int .i64))) (fun x:S112=>(x.f0,x.f1))
theorem k112_open {w:World} {x:S112} {cs:List Value} (h:k112.K w x cs):∃A1 c1,cs=[.int .i64 x.f0,.slice A1 x.f1.length c1]∧x.f1.length≤c1∧(Kd.int .i64).C w A1 x.f1.length x.f1:=by
 obtain ⟨_,_,rfl,rfl,⟨A1,c1,rfl,l1,g1⟩⟩:=h
 exact ⟨A1,c1,rfl,l1,g1⟩
theorem k112_openM {w:World} {base:Nat} {ok:Nat→Prop} {x:S112} {cs:List Value} (h:k112.M w base ok x cs):∃v1,cs=[.int .i64 x.f0,v1]∧(Kd.int .i64).R 3 w base ok v1 x.f1:=by
 obtain ⟨_,_,rfl,rfl,⟨v1,rfl,g1⟩⟩:=h
 exact ⟨v1,rfl,g1⟩
theorem zyb (w:World) (base:Nat) (ok:Nat→Prop) (x:S112) {v1:Value} (g1:(Kd.int .i64).R 3 w base ok v1 x.f1):k112.M w base ok x [.int .i64 x.f0,v1]:=⟨[.int .i64 x.f0],[v1],rfl,rfl,⟨v1,rfl,g1⟩⟩
def zF (xs:List S112) (i:Int):S112:=xs.getD i.toNat z112
theorem zxb {w:World} {A:Option Addr} {n:Nat} {xs:List S112} (h:Kd.C k112 w A n xs) (i:Int) (h0:0≤i) (h1:i<n):∃ad A1 c1,A=some ad∧w.cell? (ad.add (i.toNat*2))=some (.int .i64 (zF xs i).f0)∧w.cell? ⟨(ad.add (i.toNat*2)).block,(ad.add (i.toNat*2)).off+1,none⟩=some (.slice A1 (zF xs i).f1.length c1)∧(zF xs i).f1.length≤c1∧(Kd.int .i64).C w A1 (zF xs i).f1.length (zF xs i).f1:=by
 obtain ⟨ad,c,e,_,hK,hc0⟩:=Kd.C_get h z112 i h0 h1
 have hc:∀j u,c[j]?=some u→w.cell? (ad.add (i.toNat*2+j))=some u:=hc0
 obtain ⟨A1,c1,rfl,l1,g1⟩:=k112_open hK
 exact ⟨ad,A1,c1,e,hc 0 _ rfl,by rw [←zmb _ _ 1 zq9];exact hc 1 _ rfl,l1,g1⟩
structure S40 where
 f0:Int
 f1:Int
 f2:Int
 f3:(List S112)
def z40:S40:=⟨(0:Int),(0:Int),(0:Int),([]:List S112)⟩
def k40:Kd S40:=Kd.iso (Kd.pair (Kd.int .i64) (Kd.pair (Kd.int .i64) (Kd.pair (Kd.int .i64) (Own.srow 112 k112)))) (fun x:S40=>(x.f0,x.f1,x.f2,x.f3))
theorem zEa {w:World} {x:S40} {cs:List Value} (h:k40.K w x cs):∃A3 c3,cs=[.int .i64 x.f0,.int .i64 x.f1,.int .i64 x.f2,.slice A3 x.f3.length c3]∧x.f3.length≤c3∧k112.C w A3 x.f3.length x.f3:=by
 obtain ⟨_,_,rfl,rfl,⟨_,_,rfl,rfl,⟨_,_,rfl,rfl,⟨A3,c3,rfl,l3,g3⟩⟩⟩⟩:=h
 exact ⟨A3,c3,rfl,l3,g3⟩
theorem k40_openM {w:World} {base:Nat} {ok:Nat→Prop} {x:S40} {cs:List Value} (h:k40.M w base ok x cs):∃v3,cs=[.int .i64 x.f0,.int .i64 x.f1,.int .i64 x.f2,v3]∧Kd.S k112 112 w base ok v3 x.f3:=by
 obtain ⟨_,_,rfl,rfl,⟨_,_,rfl,rfl,⟨_,_,rfl,rfl,⟨v3,rfl,g3⟩⟩⟩⟩:=h
 exact ⟨v3,rfl,g3⟩
theorem k40_mk (w:World) (x:S40) {A3:Option Addr} {c3:Nat} (l3:x.f3.length≤c3) (g3:k112.C w A3 x.f3.length x.f3):k40.K w x [.int .i64 x.f0,.int .i64 x.f1,.int .i64 x.f2,.slice A3 x.f3.length c3]:=⟨[.int .i64 x.f0],[.int .i64 x.f1,.int .i64 x.f2,.slice A3 x.f3.length c3],rfl,rfl,⟨[.int .i64 x.f1],[.int .i64 x.f2,.slice A3 x.f3.length c3],rfl,rfl,⟨[.int .i64 x.f2],[.slice A3 x.f3.length c3],rfl,rfl,⟨A3,c3,rfl,l3,g3⟩⟩⟩⟩
theorem zlb (w:World) (base:Nat) (ok:Nat→Prop) (x:S40) {v3:Value} (g3:Kd.S k112 112 w base ok v3 x.f3):k40.M w base ok x [.int .i64 x.f0,.int .i64 x.f1,.int .i64 x.f2,v3]:=⟨[.int .i64 x.f0],[.int .i64 x.f1,.int .i64 x.f2,v3],rfl,rfl,⟨[.int .i64 x.f1],[.int .i64 x.f2,v3],rfl,rfl,⟨[.int .i64 x.f2],[v3],rfl,rfl,⟨v3,rfl,g3⟩⟩⟩⟩
structure S135 where
 f0:Int
 f1:S40
def z135:S135:=⟨(0:Int),z40⟩
def k135:Kd S135:=Kd.iso (Kd.pair (Kd.int .i64) k40) (fun x:S135=>(x.f0,x.f1))
theorem k135_open {w:World} {x:S135} {cs:List Value} (h:k135.K w x cs):∃A4 c4,cs=[.int .i64 x.f0,.int .i64 x.f1.f0,.int .i64 x.f1.f1,.int .i64 x.f1.f2,.slice A4 x.f1.f3.length c4]∧x.f1.f3.length≤c4∧k112.C w A4 x.f1.f3.length x.f1.f3:=by
 obtain ⟨_,_,rfl,rfl,s1⟩:=h
 obtain ⟨A4,c4,rfl,l4,g4⟩:=zEa s1
 exact ⟨A4,c4,rfl,l4,g4⟩
theorem k135_openM {w:World} {base:Nat} {ok:Nat→Prop} {x:S135} {cs:List Value} (h:k135.M w base ok x cs):∃v4,cs=[.int .i64 x.f0,.int .i64 x.f1.f0,.int .i64 x.f1.f1,.int .i64 x.f1.f2,v4]∧Kd.S k112 112 w base ok v4 x.f1.f3:=by
 obtain ⟨_,_,rfl,rfl,s1⟩:=h
 obtain ⟨v4,rfl,g4⟩:=k40_openM s1
 exact ⟨v4,rfl,g4⟩
theorem k135_mkM (w:World) (base:Nat) (ok:Nat→Prop) (x:S135) {v4:Value} (g4:Kd.S k112 112 w base ok v4 x.f1.f3):k135.M w base ok x [.int .i64 x.f0,.int .i64 x.f1.f0,.int .i64 x.f1.f1,.int .i64 x.f1.f2,v4]:=⟨[.int .i64 x.f0],[.int .i64 x.f1.f0,.int .i64 x.f1.f1,.int .i64 x.f1.f2,v4],rfl,rfl,(zlb w base ok x.f1 g4)⟩
def zE (xs:List S135) (i:Int):S135:=xs.getD i.toNat z135
theorem zgc {w:World} {A:Option Addr} {n:Nat} {xs:List S135} (h:Kd.C k135 w A n xs) (i:Int) (h0:0≤i) (h1:i<n):∃ad A4 c4,A=some ad∧w.cell? (ad.add (i.toNat*5))=some (.int .i64 (zE xs i).f0)∧w.cell? ⟨(ad.add (i.toNat*5)).block,(ad.add (i.toNat*5)).off+1,none⟩=some (.int .i64 (zE xs i).f1.f0)∧w.cell? ⟨(ad.add (i.toNat*5)).block,(ad.add (i.toNat*5)).off+2,none⟩=some (.int .i64 (zE xs i).f1.f1)∧w.cell? ⟨(ad.add (i.toNat*5)).block,(ad.add (i.toNat*5)).off+3,none⟩=some (.int .i64 (zE xs i).f1.f2)∧w.cell? ⟨(ad.add (i.toNat*5)).block,(ad.add (i.toNat*5)).off+4,none⟩=some (.slice A4 (zE xs i).f1.f3.length c4)∧(zE xs i).f1.f3.length≤c4∧k112.C w A4 (zE xs i).f1.f3.length (zE xs i).f1.f3:=by
 obtain ⟨ad,c,e,_,hK,hc0⟩:=Kd.C_get h z135 i h0 h1
 have hc:∀j u,c[j]?=some u→w.cell? (ad.add (i.toNat*5+j))=some u:=hc0
 obtain ⟨A4,c4,rfl,l4,g4⟩:=k135_open hK
 exact zq193
structure S140 where
 f0:Int
 f1:(List Int)
def z140:S140:=⟨(0:Int),([]:List Int)⟩
def k140:Kd S140:=Kd.iso (Kd.pair (Kd.int .i64) (Kd.slice 3 (Kd.int .i64))) (fun x:S140=>(x.f0,x.f1))
theorem k140_open {w:World} {x:S140} {cs:List Value} (h:k140.K w x cs):∃A1 c1,cs=[.int .i64 x.f0,.slice A1 x.f1.length c1]∧x.f1.length≤c1∧(Kd.int .i64).C w A1 x.f1.length x.f1:=by
 obtain ⟨_,_,rfl,rfl,⟨A1,c1,rfl,l1,g1⟩⟩:=h
 exact ⟨A1,c1,rfl,l1,g1⟩
def zBa (xs:List S140) (i:Int):S140:=xs.getD i.toNat z140
theorem at_T140 {w:World} {A:Option Addr} {n:Nat} {xs:List S140} (h:Kd.C k140 w A n xs) (i:Int) (h0:0≤i) (h1:i<n):∃ad A1 c1,A=some ad∧w.cell? (ad.add (i.toNat*2))=some (.int .i64 (zBa xs i).f0)∧w.cell? ⟨(ad.add (i.toNat*2)).block,(ad.add (i.toNat*2)).off+1,none⟩=some (.slice A1 (zBa xs i).f1.length c1)∧(zBa xs i).f1.length≤c1∧(Kd.int .i64).C w A1 (zBa xs i).f1.length (zBa xs i).f1:=by
 obtain ⟨ad,c,e,_,hK,hc0⟩:=Kd.C_get h z140 i h0 h1
 have hc:∀j u,c[j]?=some u→w.cell? (ad.add (i.toNat*2+j))=some u:=hc0
 obtain ⟨A1,c1,rfl,l1,g1⟩:=k140_open hK
 exact ⟨ad,A1,c1,e,hc 0 _ rfl,by rw [←zmb _ _ 1 zq9];exact hc 1 _ rfl,l1,g1⟩
structure S24 where
 f0:Int
 f1:Int
 f2:Int
 f3:(List S140)
def z24:S24:=⟨(0:Int),(0:Int),(0:Int),([]:List S140)⟩
def k24:Kd S24:=Kd.iso (Kd.pair (Kd.int .i64) (Kd.pair (Kd.int .i64) (Kd.pair (Kd.int .i64) (Kd.slice 140 k140)))) (fun x:S24=>(x.f0,x.f1,x.f2,x.f3))
theorem k24_open {w:World} {x:S24} {cs:List Value} (h:k24.K w x cs):∃A3 c3,cs=[.int .i64 x.f0,.int .i64 x.f1,.int .i64 x.f2,.slice A3 x.f3.length c3]∧x.f3.length≤c3∧k140.C w A3 x.f3.length x.f3:=by
 obtain ⟨_,_,rfl,rfl,⟨_,_,rfl,rfl,⟨_,_,rfl,rfl,⟨A3,c3,rfl,l3,g3⟩⟩⟩⟩:=h
 exact ⟨A3,c3,rfl,l3,g3⟩
structure S132 where
 f0:Int
 f1:S24
def z132:S132:=⟨(0:Int),z24⟩
def k132:Kd S132:=Kd.iso (Kd.pair (Kd.int .i64) k24) (fun x:S132=>(x.f0,x.f1))
theorem k132_open {w:World} {x:S132} {cs:List Value} (h:k132.K w x cs):∃A4 c4,cs=[.int .i64 x.f0,.int .i64 x.f1.f0,.int .i64 x.f1.f1,.int .i64 x.f1.f2,.slice A4 x.f1.f3.length c4]∧x.f1.f3.length≤c4∧k140.C w A4 x.f1.f3.length x.f1.f3:=by
 obtain ⟨_,_,rfl,rfl,s1⟩:=h
 obtain ⟨A4,c4,rfl,l4,g4⟩:=k24_open s1
 exact ⟨A4,c4,rfl,l4,g4⟩
def zY (xs:List S132) (i:Int):S132:=xs.getD i.toNat z132
theorem at_T132 {w:World} {A:Option Addr} {n:Nat} {xs:List S132} (h:Kd.C k132 w A n xs) (i:Int) (h0:0≤i) (h1:i<n):∃ad A4 c4,A=some ad∧w.cell? (ad.add (i.toNat*5))=some (.int .i64 (zY xs i).f0)∧w.cell? ⟨(ad.add (i.toNat*5)).block,(ad.add (i.toNat*5)).off+1,none⟩=some (.int .i64 (zY xs i).f1.f0)∧w.cell? ⟨(ad.add (i.toNat*5)).block,(ad.add (i.toNat*5)).off+2,none⟩=some (.int .i64 (zY xs i).f1.f1)∧w.cell? ⟨(ad.add (i.toNat*5)).block,(ad.add (i.toNat*5)).off+3,none⟩=some (.int .i64 (zY xs i).f1.f2)∧w.cell? ⟨(ad.add (i.toNat*5)).block,(ad.add (i.toNat*5)).off+4,none⟩=some (.slice A4 (zY xs i).f1.f3.length c4)∧(zY xs i).f1.f3.length≤c4∧k140.C w A4 (zY xs i).f1.f3.length (zY xs i).f1.f3:=by
 obtain ⟨ad,c,e,_,hK,hc0⟩:=Kd.C_get h z132 i h0 h1
 have hc:∀j u,c[j]?=some u→w.cell? (ad.add (i.toNat*5+j))=some u:=hc0
 obtain ⟨A4,c4,rfl,l4,g4⟩:=k132_open hK
 exact zq193
structure S28 where
 f0:(List ByteArray)
 f1:(List S156)
def z28:S28:=⟨([]:List ByteArray),([]:List S156)⟩
def laws_toFree.f (k:Nat) (a0_0:Int) (l0_1:List Int):Option (Int×List Int):=(laws_toIntS.f k l0_1).bind fun t277=>(some (a0_0,t277))
theorem laws_toFree.calls (k:Nat) (a0:Int) (A0:Option Addr) (c0:Nat) (l2:List Int) (r1:Int) (r2:List Int) (w:World) (r0:Kd.C (Kd.int .i64) w A0 l2.length l2) (h0:l2.length≤c0) (h:laws_toFree.f k a0 l2=some (r1,r2)):
  Calls Tryz.prog 117 #[.agg #[.int .i64 a0,.slice A0 l2.length c0]] w fun e w'=>∃v0:Value,e= .returned (.agg #[.int .i64 r1,v0])∧Kd.R (Kd.int .i64) 3 w' w.heap.size (fun _=>True) v0 r2∧Below w.heap.size w w':=by
 have hu183:=Tryz.underlying140
 have hu122:=Tryz.underlying112
 have R0:=zz r0
 have C0:=zz h0
 clear r0 h0
 have HB:=zz (z1a w.heap.size w)
 have H:((laws_toIntS.f k l2).bind fun t0=>(some (a0,t0)))=some (r1,r2):=h
 clear h
 replace H:=z2a H
 obtain ⟨t0,A1,H⟩:=H
 replace H:(some (a0,t0))=some (r1,r2):=H
 have A2:=zz A1
 clear A1
 simp only [Option.some.injEq,Prod.mk.injEq] at H
 obtain ⟨rfl,rfl⟩:=H
 go_enter Tryz.func117,Tryz.ntmps117
 go_wp2_with (first|((with_reducible refine zd (N:=1) rfl ?_);refine zx rfl (N:=1) rfl (cs:= #[.int .i64 a0,.slice A0 l2.length c0]) (t:=140) zq27 ?_;intro g0 hg w3 hbox hb;have B0:=zz hbox;have G0:=zz (zq15:w.heap.size≤g0);replace HB:=zz (ze zq0 hb);clear hb hbox hg)|((with_reducible refine zd (N:=2) rfl ?_);refine zx rfl (N:=2) rfl (cs:= #[.int .i64 0,.slice none 0 0]) (t:=112) zq27 ?_;intro g1 hg w4 hbox hb;have B2:=zz hbox;have G1:=zz (zq25 G0.1:w.heap.size≤g1);have N0:=zz (zq92 B0.1:g0≠g1);have N1:=zz (zq93 B0.1:g1≠g0);replace B0:=zz (zg (g:=g0) (o:= .cells #[.int .i64 a0,.slice A0 l2.length c0] 140 (0,0)) (zq1 B0.1) hb);replace HB:=zz (ze (zq4 G0.1) hb);clear hb hbox hg)|((with_reducible refine zd (N:=3) rfl ?_);refine zx rfl (N:=3) rfl (cs:= #[.int .i64 0,.slice none 0 0]) (t:=112) zq27 ?_;intro g2 hg w5 hbox hb;have B4:=zz hbox;have G2:=zz (zq35 G0.1 G1.1:w.heap.size≤g2);have N2:=zz (zq92 B0.1:g0≠g2);have N3:=zz (zq93 B0.1:g2≠g0);have N4:=zz (by rw [hg];exact z8a (zP (g:=g1) (o:= .cells #[.int .i64 0,.slice none 0 0] 112 (0,0)) (zq1 B2.1)):g1≠g2);have N5:=zz (by rw [hg];exact z7a (zP (g:=g1) (o:= .cells #[.int .i64 0,.slice none 0 0] 112 (0,0)) (zq1 B2.1)):g2≠g1);replace B0:=zz (zg (g:=g0) (o:= .cells #[.int .i64 a0,.slice A0 l2.length c0] 140 (0,0)) (zq1 B0.1) hb);replace B2:=zz (zg (g:=g1) (o:= .cells #[.int .i64 0,.slice none 0 0] 112 (0,0)) (zq1 B2.1) hb);replace HB:=zz (ze (zq5 G0.1 G1.1) hb);clear hb hbox hg;have hnb6:=N0.1;have hnc6:=N1.1;have hnb7:=N2.1;have hnc7:=N3.1;obtain ⟨_,_,_,_⟩:=zV B0.1;have hnb9:=N5.1;have hnc9:=N4.1;obtain ⟨_,_,_,_⟩:=zV B4.1)|((with_reducible refine zr (f:=85) rfl ?_);refine zN (some 9) rfl rfl Tryz.func85 zq13 rfl #[.slice A0 l2.length c0] rfl zq8 ?_;(with_reducible refine (laws_toIntS.calls k _ _ l2 t0 _ ?side1 ?side2 A2.1).mono ?_);(case side1=>exact Kd.C_below R0.1 (zq11 G0.1 G1.1 G2.1));(case side2=>exact C0.1);rintro e w11 ⟨v278,rfl,ho0,hb⟩;refine ⟨_,rfl,?_⟩;(first|have rs_v278:=zga (P:=Tryz.prog) ho0|have rs_v278:=zga (P:=Tryz.prog) (Kd.S_R ho0)|skip);have O0:=zz (Kd.R_lower ho0 (zD (zq11 G0.1 G1.1 G2.1)));replace B0:=zz (zg (g:=g0) (o:= .cells #[.int .i64 a0,.slice A0 l2.length c0] 140 (0,0)) (zq46 N2.1 B0.1) hb);replace B2:=zz (zg (g:=g1) (o:= .cells #[.int .i64 0,.slice none 0 0] 112 (0,0)) (zq46 N4.1 B2.1) hb);replace B4:=zz (zg (g:=g2) (o:= .cells #[.int .i64 a0,.slice none 0 0] 112 (0,0)) (by (with_reducible repeat (first|refine zk ?_ _|refine zl ?_|refine zh ?_ _));refine zW (cs:= #[.int .i64 0,.slice none 0 0]) ?_ 0 _ rfl;(with_reducible repeat (first|refine zk ?_ _|refine zl ?_|refine zh ?_ _));exact B4.1) hb);replace HB:=zz (ze (zq11 G0.1 G1.1 G2.1) hb);(try clear hb);(try clear hb2);(try clear hk);(try clear hi);(try clear ho0);obtain ⟨A4,c1,e0⟩:=Kd.R_slice O0.1;subst e0;obtain ⟨_,_,_,_⟩:=zV B4.1;obtain ⟨_,_,_,_⟩:=zV B2.1))
 refine bodyPost_ret (results_cell_row rfl _ _ g1 112 #[.int .i64 a0,.slice A4 t0.length c1] (0,0) _ rfl (by (with_reducible repeat (first|refine zk ?_ _|refine zl ?_|refine zh ?_ _));refine zW (cs:= #[.int .i64 a0,.slice none 0 0]) ?_ 1 _ rfl;(with_reducible repeat (first|refine zk ?_ _|refine zl ?_|refine zh ?_ _));refine zW (cs:= #[.int .i64 0,.slice none 0 0]) ?_ 0 _ rfl;(with_reducible repeat (first|refine zk ?_ _|refine zl ?_|refine zh ?_ _));refine zka ?_ N4.1 _;(with_reducible repeat (first|refine zk ?_ _|refine zl ?_|refine zh ?_ _));exact B2.1) Tryz.underlying112 rfl zq13) rfl ?_
 exact ⟨_,zq16,by (with_reducible repeat (first|apply Kd.R_alloc|apply Kd.R_drewN|apply Kd.R_drew));exact Kd.R_mono (Kd.R_far (p:=⟨g1,1,none⟩) (Kd.R_far (p:=⟨g1,0,none⟩) (Kd.R_far (p:=⟨g2,1,none⟩) (Kd.R_types (Kd.R_types O0.1 B4.1 zq31) B2.1 zq31) (fun _ hk=>hk.1.2) (.slice A4 t0.length c1)) (fun _ hk=>hk.2) (.int .i64 a0)) (fun _ hk=>hk.2) (.slice A4 t0.length c1)) (fun _ hk=>trivial),zq11 G0.1 G1.1 G2.1⟩
def laws_toFreeS.l0:Nat→List (S140)→List (S112)→Int→Option ((List (S112)))
 |0,_,_,_=>none
 |k+1,x0,x3,x4=>if x4<(x0.length:Int) then (if 0≤x4 then ((laws_toFree.f k ((zBa x0 x4).f0) ((zBa x0 x4).f1)).bind fun bt284=>(if x4<(x3.length:Int) then (laws_toFreeS.l0 k x0 (x3.set (x4:Int).toNat (⟨bt284.1,bt284.2⟩:S112)) (wrap64 (x4+1))) else (none))) else (none)) else (some x3)
def laws_toFreeS.f (k:Nat) (l0:List (S140)):Option ((List (S112))):=if 0≤(l0.length:Int) then (if ((l0.length:Int):Int).toNat≤8796093022208 then (laws_toFreeS.l0 k l0 (List.replicate ((l0.length:Int):Int).toNat z112) 0) else (none)) else (none)
theorem laws_toFreeS.calls (k:Nat) (A0:Option Addr) (c0:Nat) (l0:List (S140)) (r:List (S112)) (w:World) (hr0:Kd.C k140 w A0 l0.length l0) (hc0:l0.length≤c0) (h:laws_toFreeS.f k l0=some r):
  Calls Tryz.prog 84 #[.slice A0 l0.length c0] w fun e w'=>∃v0:Value,e= .returned (v0)∧Kd.S k112 112 w' w.heap.size (fun _=>True) v0 r∧Below w.heap.size w w':=by
 have hu183:=Tryz.underlying140
 have hu122:=Tryz.underlying112
 have HR0:=zz hr0
 clear hr0 hc0
 have HB:=zz (z1a w.heap.size w)
 have H:(if 0≤(l0.length:Int) then (if ((l0.length:Int):Int).toNat≤8796093022208 then (laws_toFreeS.l0 k l0 (List.replicate ((l0.length:Int):Int).toNat z112) 0) else (none)) else (none))=some r:=h
 clear h
 by_cases c2:0≤(l0.length:Int)
 ·rw [if_pos c2] at H
  have c2b0:=eq_true c2
  have c2b1:=z6 c2
  clear c2
  by_cases c3:((l0.length:Int):Int).toNat≤8796093022208
  ·rw [if_pos c3] at H
   have c3b0:=eq_true c3
   have c3b1:=z6 c3
   clear c3
   obtain ⟨y0,i0⟩:∃y_:List (S112),y_=(List.replicate ((l0.length:Int):Int).toNat z112):=⟨_,rfl⟩
   replace H:(laws_toFreeS.l0 k l0 y0 0)=some r:=zq20
   have Y0:=zz i0
   clear i0
   have H':=zz H
   clear H
   go_enter Tryz.func84,Tryz.ntmps84
   go_wp2_with (first|((with_reducible refine zd (N:=7) rfl ?_);refine Kd.S_make k112 _ 112 rfl (N:=7) rfl 38 _ _ rfl (l0.length:Int) rfl rfl Tryz.underlying38 (.agg #[(.int .i64 0),(.slice none 0 0)]) 32 info112 rfl zq31 zq9 z112 (ok:=fun _=>True) (okp:=fun _=>True) (zyb _ _ _ z112 (Kd.R_nil _ _ _ _ _)) (fun _ hk=>hk) trivial (z8 zq21) (z5a (z9a _ (z8 zq21:(l0.length:Int).toNat≤8796093022208)) zq9) (z1a _ _) (z3a _) ?_;intro v1 w4 ho5 hb hg_ hnew_;clear hg_ hnew_;(first|rw [←Y0.1] at ho5|(simp only [Int.reduceToNat] at ho5;rw [←Y0.1] at ho5));have O0:=zz (Kd.S_lower ho5 (zD zq0));replace HB:=zz (ze zq0 hb);clear hb ho5))
   go_loopg [4] k (fun kq v4 w'=>∃(x0:List (S112)) (x1:Int),v4= .int .i64 x1∧Z0 (laws_toFreeS.l0 kq l0 x0 x1=some r)∧Z0 (kq≤k)∧Z0 (Kd.S k112 112 w' w.heap.size (fun _=>True) v1 x0)∧Z0 (Below w.heap.size w w'))
   case atStart=>exact ⟨(y0),(0),zq18,H',⟨z3a _⟩,⟨by (with_reducible repeat (first|apply Kd.S_alloc|apply Kd.S_drewN|apply Kd.S_drew));exact O0.1⟩,⟨zq0⟩⟩
   case round=>
    clear H'
    try clear c2
    try clear c2b0
    try clear c2b1
    try clear c3
    try clear c3b0
    try clear c3b1
    obtain ⟨x0,x1,rfl,HA,HK1,O1,HB⟩:=hrel
    cases gk with
    |zero=>exact absurd HA.1 (by simp [laws_toFreeS.l0])
    |succ k1=>
     have H:=HA.1
     clear HA
     simp only [laws_toFreeS.l0] at H
     by_cases c6:x1<(l0.length:Int)
     ·rw [if_pos c6] at H
      have c6b0:=z6 c6
      clear c6
      by_cases c7:0≤x1
      ·rw [if_pos c7] at H
       have c7b0:=z6 c7
       clear c7
       replace H:=z2a H
       obtain ⟨⟨t0,t1⟩,A1,H⟩:=H
       replace H:(if x1<(x0.length:Int) then (laws_toFreeS.l0 k1 l0 (x0.set (x1:Int).toNat (⟨t0,t1⟩:S112)) (wrap64 (x1+1))) else (none))=some r:=H
       have A8:=zz A1
       clear A1
       by_cases c9:x1<(x0.length:Int)
       ·rw [if_pos c9] at H
        have c9b0:=z6 c9
        clear c9
        obtain ⟨y1,i1⟩:∃y_:List (S112),y_=(x0.set (x1:Int).toNat (⟨t0,t1⟩:S112)):=⟨_,rfl⟩
        replace H:(laws_toFreeS.l0 k1 l0 y1 (wrap64 (x1+1)))=some r:=zq34
        have Y1:=zz i1
        clear i1
        have H':=zz H
        clear H
        have p0:0≤(x1:Int):=z8 zq21
        have q0:x1<(l0.length:Int):=z8 zq21
        obtain ⟨ad283,A2,c1,e0,k0,k2,hl283_1,hi283_1⟩:=at_T140 HR0.1 x1 p0 q0
        cases e0
        replace k0:=(HB.1.cell (z0a w _ k0)).trans k0
        replace k2:=(HB.1.cell (z0a w _ k2)).trans k2
        have R0:=zz hi283_1
        have C0:=zz hl283_1
        clear hi283_1 hl283_1
        replace p0:=eq_true p0
        replace q0:=eq_true q0
        go_wp2_with (first|((with_reducible refine zr (f:=117) rfl ?_);refine zN (some 20) rfl rfl Tryz.func117 zq13 rfl #[.agg #[.int .i64 ((zBa l0 x1).f0),.slice A2 ((zBa l0 x1).f1).length c1]] rfl zq8 ?_;(with_reducible refine (laws_toFree.calls k1 ((zBa l0 x1).f0) _ _ ((zBa l0 x1).f1) t0 t1 _ ?side1 ?side2 A8.1).mono ?_);(case side1=>repeat (first|exact (Kd.C_below R0.1 HB.1)|(with_reducible refine Kd.C_alloc ?_ _)|(with_reducible refine Kd.C_drewN ?_ _)|(with_reducible refine Kd.C_drew ?_)));(case side2=>exact C0.1);rintro e w5 ⟨v2,rfl,ho0,hb⟩;refine ⟨_,rfl,?_⟩;(first|have rs_v286:=zga (P:=Tryz.prog) ho0|have rs_v286:=zga (P:=Tryz.prog) (Kd.S_R ho0)|skip);have O2:=zz (Kd.R_lower ho0 (zD zq0));replace O1:=zz (Kd.S_elder' (zq112 O1.1) (Kd.R_base ho0) hb);replace HB:=zz (ze zq0 hb);(try clear hb);(try clear hb2);(try clear hk);(try clear hi);(try clear ho0);have p1:0≤(x1:Int):=z8 zq21;have q1:(x1:Int)<((x0.length:Int):Int):=z8 zq21;obtain ⟨go10,c11,e1,g0,gl10,cl10,HG10⟩:=Kd.S_form O1.1 zq9;(first|cases e1|(injection e1 with ea_ en_ ec_;(first|subst ea_|(injection ea_ with ea_;subst ea_));subst ec_;clear en_));have GB10:=zz g0;clear g0 gl10 HG10;obtain ⟨_,ce10,hcl10,hM10,hcc10,hfr10,_,_⟩:=Kd.S_elem O1.1 z112 (x1:Int) p1 q1;obtain ⟨ve10_1,rfl,ge10_1⟩:=k112_openM hM10;have hx10_0:w5.cell? ⟨go10,(x1:Int).toNat*2,none⟩=some (.int .i64 ((zF x0 x1).f0)):=hcc10 0 _ rfl;have hx10_1:w5.cell? ⟨go10,(x1:Int).toNat*2+1,none⟩=some (ve10_1):=hcc10 1 _ rfl;have hf10_0:w5.frozen? ⟨go10,(x1:Int).toNat*2,none⟩=false:=hfr10 0;have hf10_1:w5.frozen? ⟨go10,(x1:Int).toNat*2+1,none⟩=false:=hfr10 1;clear hcl10 hcc10 hfr10 hM10;replace p1:=eq_true p1;replace q1:=eq_true q1;have n_:=zz (Kd.S_mono (ok':=(fun k_=>some k_≠(v2:Value).ownBlock)) O1.1 (fun k_ hk=>hk.2));clear O1;have O1:=n_;clear n_;have HX12:=zz (show Kd.S k112 112 w5 w.heap.size (fun k_=>((fun _=>True)) k_∧¬((fun k_=>some k_=(v2:Value).ownBlock)) k_) (.slice (some ⟨go10,0,none⟩) x0.length c11) x0 from (by (with_reducible repeat (first|apply Kd.S_alloc|apply Kd.S_drewN|apply Kd.S_drew));exact Kd.S_mono O1.1 (fun k_ hk=>⟨trivial,fun e_=>hk e_⟩)));obtain ⟨oki12,ce12,hcl12,hM12,hcc12,hfr12,hoki12,hH12⟩:=Kd.S_elem HX12.1 z112 (x1:Int) (z8 zq21) (zq106 O1.1);obtain ⟨ve12_1,rfl,ge12_1⟩:=k112_openM hM12;have HP12:=Kd.S_seg hH12 (z8 zq21) (zq106 O1.1) (seg:=[.int .i64 t0,v2]) (j:=0) (show 2≤2 from by decide) (x':=(⟨t0,t1⟩:S112)) (zyb _ _ _ (⟨t0,t1⟩:S112) (Kd.R_mono (Kd.R_tight rfl (Kd.R_mono (ok':=fun k_=>((fun _=>True)) k_∧k_≠go10) (Kd.R_apart' (O2.1) (Kd.S_typed O1.1) zq31) (fun k_ hk=>⟨trivial,fun e_=>(hk.2) (by rw [e_];rfl)⟩))) (fun _ h_=>Or.inr (h_)))) (fun _ hk=>hk) (fun k_ hk_=>((Kd.R_mono (ok':=fun k_=>((fun _=>True)) k_∧k_≠go10) (Kd.R_apart' (O2.1) (Kd.S_typed O1.1) zq31) (fun k_ hk=>⟨trivial,fun e_=>(hk.2) (by rw [e_];rfl)⟩))).1 k_ hk_.symm);have k3:=hcc12 0 _ rfl;(try simp only [show (k112).sz=2 from rfl,Nat.mul_one,Nat.add_zero] at k3);have hf12_0:=hfr12 0;(try simp only [show (k112).sz=2 from rfl,Nat.mul_one,Nat.add_zero] at hf12_0);have k4:=hcc12 1 _ rfl;(try simp only [show (k112).sz=2 from rfl,Nat.mul_one,Nat.add_zero] at k4);have hf12_1:=hfr12 1;(try simp only [show (k112).sz=2 from rfl,Nat.mul_one,Nat.add_zero] at hf12_1);clear hcl12 hcc12 hfr12 hM12 hoki12 hH12)|((with_reducible refine zm (t:=112) (p:=21) rfl ?_);refine zGa (t:=112) (p:=21) (v:= ?vo_w13) (w1:=((w5.setCell ⟨go10,(x1:Int).toNat*2,none⟩ (.int .i64 t0)).setCell ⟨go10,(x1:Int).toNat*2+1,none⟩ (v2))) ?hg ?ho ?hn ?hr ?_;(case ho=>rfl);(case hg=>rfl);(case hn=>rfl);(case hr=>first|(go_simp;done)|(go_simp;rfl));intro w6 hw;have hg:w5.grownBy w6 (some go10):=(by rw [hw];exact HP12.2);have hp_:Kd.S k112 112 w6 w.heap.size (fun _=>True) (.slice (some ⟨go10,0,none⟩) x0.length c11) y1:=(by rw [hw,Y1.1];exact HP12.1);clear HP12;replace O1:=zz hp_;replace HB:=zz (by rw [hw];exact zZ (zZ (HB.1) GB10.1) GB10.1:Below w.heap.size w w6);clear O2;clear hg hw hp_))
        go_roundg k1
        case measure=>have:=HK1.1;omega
        case rel=>exact ⟨(y1),(wrap64 (x1+1)),zq18,H',⟨zq51 HK1.1⟩,⟨by (with_reducible repeat (first|apply Kd.S_alloc|apply Kd.S_drewN|apply Kd.S_drew));exact O1.1⟩,⟨zq0⟩⟩
       ·rw [if_neg c9] at H
        exact absurd H zq38
      ·exact zq176
     ·rw [if_neg c6] at H
      have c6b0:=z7 c6
      clear c6
      obtain rfl:=z6a H
      go_wp2
      go_ret
      exact ⟨_,zq16,by (with_reducible repeat (first|apply Kd.S_alloc|apply Kd.S_drewN|apply Kd.S_drew));exact O1.1,zq0⟩
  ·exact zq166
 ·exact zq211
def laws_toMeta.f (k:Nat) (a0_0:Int) (a0_1:Int) (a0_2:Int) (l0_3:List (S140)):Option (Int×Int×Int×(List (S112))):=(laws_toFreeS.f k l0_3).bind fun t292=>(some (a0_0,a0_1,a0_2,t292))
theorem laws_toMeta.calls (k:Nat) (a0:Int) (a1:Int) (a2:Int) (A0:Option Addr) (c0:Nat) (l2:List (S140)) (r1:Int) (r2:Int) (r3:Int) (r4:List (S112)) (w:World) (r0:Kd.C k140 w A0 l2.length l2) (h0:l2.length≤c0) (h:laws_toMeta.f k a0 a1 a2 l2=some (r1,r2,r3,r4)):
  Calls Tryz.prog 40 #[.agg #[.int .i64 a0,.int .i64 a1,.int .i64 a2,.slice A0 l2.length c0]] w fun e w'=>∃v0:Value,e= .returned (.agg #[.int .i64 r1,.int .i64 r2,.int .i64 r3,v0])∧Kd.S k112 112 w' w.heap.size (fun _=>True) v0 r4∧Below w.heap.size w w':=by
 have hu69:=Tryz.underlying24
 have hu53:=Tryz.underlying40
 have R0:=zz r0
 have C0:=zz h0
 clear r0 h0
 have HB:=zz (z1a w.heap.size w)
 have H:((laws_toFreeS.f k l2).bind fun t0=>(some (a0,a1,a2,t0)))=some (r1,r2,r3,r4):=h
 clear h
 replace H:=z2a H
 obtain ⟨t0,A1,H⟩:=H
 replace H:(some (a0,a1,a2,t0))=some (r1,r2,r3,r4):=H
 have A2:=zz A1
 clear A1
 simp only [Option.some.injEq,Prod.mk.injEq] at H
 obtain ⟨rfl,rfl,rfl,rfl⟩:=H
 go_enter Tryz.func40,Tryz.ntmps40
 go_wp2_with (first|((with_reducible refine zd (N:=1) rfl ?_);refine zx rfl (N:=1) rfl (cs:= #[.int .i64 a0,.int .i64 a1,.int .i64 a2,.slice A0 l2.length c0]) (t:=24) zq27 ?_;intro g0 hg w3 hbox hb;have B0:=zz hbox;have G0:=zz (zq15:w.heap.size≤g0);replace HB:=zz (ze zq0 hb);clear hb hbox hg)|((with_reducible refine zd (N:=2) rfl ?_);refine zx rfl (N:=2) rfl (cs:= #[.int .i64 0,.int .i64 0,.int .i64 0,.slice none 0 0]) (t:=40) zq27 ?_;intro g1 hg w4 hbox hb;have B2:=zz hbox;have G1:=zz (zq25 G0.1:w.heap.size≤g1);have N0:=zz (zq77 B0.1:g0≠g1);have N1:=zz (zq78 B0.1:g1≠g0);replace B0:=zz (zg (g:=g0) (o:= .cells #[.int .i64 a0,.int .i64 a1,.int .i64 a2,.slice A0 l2.length c0] 24 (0,0)) (zq1 B0.1) hb);replace HB:=zz (ze (zq4 G0.1) hb);clear hb hbox hg)|((with_reducible refine zd (N:=3) rfl ?_);refine zx rfl (N:=3) rfl (cs:= #[.int .i64 0,.int .i64 0,.int .i64 0,.slice none 0 0]) (t:=40) zq27 ?_;intro g2 hg w5 hbox hb;have B4:=zz hbox;have G2:=zz (zq35 G0.1 G1.1:w.heap.size≤g2);have N2:=zz (zq77 B0.1:g0≠g2);have N3:=zz (zq78 B0.1:g2≠g0);have N4:=zz (zq83 B2.1:g1≠g2);have N5:=zz (zq84 B2.1:g2≠g1);replace B0:=zz (zg (g:=g0) (o:= .cells #[.int .i64 a0,.int .i64 a1,.int .i64 a2,.slice A0 l2.length c0] 24 (0,0)) (zq1 B0.1) hb);replace B2:=zz (zg (g:=g1) (o:= .cells #[.int .i64 0,.int .i64 0,.int .i64 0,.slice none 0 0] 40 (0,0)) (zq1 B2.1) hb);replace HB:=zz (ze (zq5 G0.1 G1.1) hb);clear hb hbox hg;have hnb6:=N0.1;have hnc6:=N1.1;have hnb7:=N2.1;have hnc7:=N3.1;obtain ⟨_,_,_,_,_,_,_,_⟩:=zcell4 B0.1;have hnb9:=N5.1;have hnc9:=N4.1;obtain ⟨_,_,_,_,_,_,_,_⟩:=zcell4 B4.1)|((with_reducible refine zr (f:=84) rfl ?_);refine zN (some 15) rfl rfl Tryz.func84 zq13 rfl #[.slice A0 l2.length c0] rfl zq8 ?_;(with_reducible refine (laws_toFreeS.calls k _ _ l2 t0 _ ?side1 ?side2 A2.1).mono ?_);(case side1=>exact Kd.C_below R0.1 (zq11 G0.1 G1.1 G2.1));(case side2=>exact C0.1);rintro e w11 ⟨v293,rfl,ho0,hb⟩;refine ⟨_,rfl,?_⟩;(first|have rs_v293:=zga (P:=Tryz.prog) ho0|have rs_v293:=zga (P:=Tryz.prog) (Kd.S_R ho0)|skip);have O0:=zz (Kd.S_lower ho0 (zD (zq11 G0.1 G1.1 G2.1)));replace B0:=zz (zg (g:=g0) (o:= .cells #[.int .i64 a0,.int .i64 a1,.int .i64 a2,.slice A0 l2.length c0] 24 (0,0)) (zq57 N2.1 B0.1) hb);replace B2:=zz (zg (g:=g1) (o:= .cells #[.int .i64 0,.int .i64 0,.int .i64 0,.slice none 0 0] 40 (0,0)) (zq57 N4.1 B2.1) hb);replace B4:=zz (zg (g:=g2) (o:= .cells #[.int .i64 a0,.int .i64 a1,.int .i64 a2,.slice none 0 0] 40 (0,0)) (by (with_reducible repeat (first|refine zk ?_ _|refine zl ?_|refine zh ?_ _));refine zW (cs:= #[.int .i64 a0,.int .i64 a1,.int .i64 0,.slice none 0 0]) ?_ 2 _ rfl;(with_reducible repeat (first|refine zk ?_ _|refine zl ?_|refine zh ?_ _));refine zW (cs:= #[.int .i64 a0,.int .i64 0,.int .i64 0,.slice none 0 0]) ?_ 1 _ rfl;(with_reducible repeat (first|refine zk ?_ _|refine zl ?_|refine zh ?_ _));refine zW (cs:= #[.int .i64 0,.int .i64 0,.int .i64 0,.slice none 0 0]) ?_ 0 _ rfl;(with_reducible repeat (first|refine zk ?_ _|refine zl ?_|refine zh ?_ _));exact B4.1) hb);replace HB:=zz (ze (zq11 G0.1 G1.1 G2.1) hb);(try clear hb);(try clear hb2);(try clear hk);(try clear hi);(try clear ho0);obtain ⟨A4,c1,e0⟩:=Kd.S_slice O0.1;subst e0;obtain ⟨_,_,_,_,_,_,_,_⟩:=zcell4 B4.1;obtain ⟨_,_,_,_,_,_,_,_⟩:=zcell4 B2.1))
 refine bodyPost_ret (results_cell_row rfl _ _ g1 40 #[.int .i64 a0,.int .i64 a1,.int .i64 a2,.slice A4 t0.length c1] (0,0) _ rfl (zq37 N4.1 B2.1) Tryz.underlying40 rfl zq13) rfl ?_
 exact ⟨_,zq16,by (with_reducible repeat (first|apply Kd.S_alloc|apply Kd.S_drewN|apply Kd.S_drew));exact Kd.S_mono (Kd.S_far (p:=⟨g1,3,none⟩) (Kd.S_far (p:=⟨g1,2,none⟩) (Kd.S_far (p:=⟨g1,1,none⟩) (Kd.S_far (p:=⟨g1,0,none⟩) (Kd.S_far (p:=⟨g2,3,none⟩) (Kd.S_types (Kd.S_types O0.1 B4.1 zq31) B2.1 zq31) (fun _ hk=>hk.1.2) (.slice A4 t0.length c1)) (fun _ hk=>hk.2) (.int .i64 a0)) (fun _ hk=>hk.2) (.int .i64 a1)) (fun _ hk=>hk.2) (.int .i64 a2)) (fun _ hk=>hk.2) (.slice A4 t0.length c1)) (fun _ hk=>trivial),zq11 G0.1 G1.1 G2.1⟩
def laws_toReader.f (k:Nat) (a0_0:Int) (a0_1:Int) (a0_2:Int) (a0_3:Int) (l0_4:List (S140)):Option (Int×Int×Int×Int×(List (S112))):=(laws_toMeta.f k a0_1 a0_2 a0_3 l0_4).bind fun bt323=>(some (a0_0,bt323.1,bt323.2.1,bt323.2.2.1,bt323.2.2.2))
theorem laws_toReader.calls (k:Nat) (a0:Int) (a1:Int) (a2:Int) (a3:Int) (A0:Option Addr) (c0:Nat) (l2:List (S140)) (r1:Int) (r2:Int) (r3:Int) (r4:Int) (r5:List (S112)) (w:World) (r0:Kd.C k140 w A0 l2.length l2) (h0:l2.length≤c0) (h:laws_toReader.f k a0 a1 a2 a3 l2=some (r1,r2,r3,r4,r5)):
  Calls Tryz.prog 110 #[.agg #[.int .i64 a0,.int .i64 a1,.int .i64 a2,.int .i64 a3,.slice A0 l2.length c0]] w fun e w'=>∃v0:Value,e= .returned (.agg #[.int .i64 r1,.int .i64 r2,.int .i64 r3,.int .i64 r4,v0])∧Kd.S k112 112 w' w.heap.size (fun _=>True) v0 r5∧Below w.heap.size w w':=by
 have hu154:=Tryz.underlying132
 have hu118:=Tryz.underlying135
 have hu69:=Tryz.underlying24
 have hu53:=Tryz.underlying40
 have R0:=zz r0
 have C0:=zz h0
 clear r0 h0
 have HB:=zz (z1a w.heap.size w)
 have H:((laws_toMeta.f k a1 a2 a3 l2).bind fun b0=>(some (a0,b0.1,b0.2.1,b0.2.2.1,b0.2.2.2)))=some (r1,r2,r3,r4,r5):=h
 clear h
 replace H:=z2a H
 obtain ⟨⟨t0,t1,t2,t3⟩,A1,H⟩:=H
 replace H:(some (a0,t0,t1,t2,t3))=some (r1,r2,r3,r4,r5):=H
 have A2:=zz A1
 clear A1
 simp only [Option.some.injEq,Prod.mk.injEq] at H
 obtain ⟨rfl,rfl,rfl,rfl,rfl⟩:=H
 go_enter Tryz.func110,Tryz.ntmps110
 go_wp2_with (first|((with_reducible refine zd (N:=1) rfl ?_);refine zx rfl (N:=1) rfl (cs:= #[.int .i64 a0,.int .i64 a1,.int .i64 a2,.int .i64 a3,.slice A0 l2.length c0]) (t:=132) zq27 ?_;intro g0 hg w3 hbox hb;have B0:=zz hbox;have G0:=zz (zq15:w.heap.size≤g0);replace HB:=zz (ze zq0 hb);clear hb hbox hg)|((with_reducible refine zd (N:=2) rfl ?_);refine zx rfl (N:=2) rfl (cs:= #[.int .i64 0,.int .i64 0,.int .i64 0,.int .i64 0,.slice none 0 0]) (t:=135) zq27 ?_;intro g1 hg w4 hbox hb;have B2:=zz hbox;have G1:=zz (zq25 G0.1:w.heap.size≤g1);have N0:=zz (zq75 B0.1:g0≠g1);have N1:=zz (zq76 B0.1:g1≠g0);replace B0:=zz (zg (g:=g0) (o:= .cells #[.int .i64 a0,.int .i64 a1,.int .i64 a2,.int .i64 a3,.slice A0 l2.length c0] 132 (0,0)) (zq1 B0.1) hb);replace HB:=zz (ze (zq4 G0.1) hb);clear hb hbox hg)|((with_reducible refine zd (N:=3) rfl ?_);refine zx rfl (N:=3) rfl (cs:= #[.int .i64 0,.int .i64 0,.int .i64 0,.int .i64 0,.slice none 0 0]) (t:=135) zq27 ?_;intro g2 hg w5 hbox hb;have B4:=zz hbox;have G2:=zz (zq35 G0.1 G1.1:w.heap.size≤g2);have N2:=zz (zq75 B0.1:g0≠g2);have N3:=zz (zq76 B0.1:g2≠g0);have N4:=zz (by rw [hg];exact z8a (zP (g:=g1) (o:= .cells #[.int .i64 0,.int .i64 0,.int .i64 0,.int .i64 0,.slice none 0 0] 135 (0,0)) (zq1 B2.1)):g1≠g2);have N5:=zz (by rw [hg];exact z7a (zP (g:=g1) (o:= .cells #[.int .i64 0,.int .i64 0,.int .i64 0,.int .i64 0,.slice none 0 0] 135 (0,0)) (zq1 B2.1)):g2≠g1);replace B0:=zz (zg (g:=g0) (o:= .cells #[.int .i64 a0,.int .i64 a1,.int .i64 a2,.int .i64 a3,.slice A0 l2.length c0] 132 (0,0)) (zq1 B0.1) hb);replace B2:=zz (zg (g:=g1) (o:= .cells #[.int .i64 0,.int .i64 0,.int .i64 0,.int .i64 0,.slice none 0 0] 135 (0,0)) (zq1 B2.1) hb);replace HB:=zz (ze (zq5 G0.1 G1.1) hb);clear hb hbox hg;have hnb6:=N0.1;have hnc6:=N1.1;have hnb7:=N2.1;have hnc7:=N3.1;obtain ⟨_,_,_,_,_,_,_,_,_,_⟩:=zcell5 B0.1;have hnb9:=N5.1;have hnc9:=N4.1;obtain ⟨_,_,_,_,_,_,_,_,_,_⟩:=zcell5 B4.1)|((with_reducible refine zr (f:=40) rfl ?_);refine zN (some 9) rfl rfl Tryz.func40 zq13 rfl #[.agg #[.int .i64 a1,.int .i64 a2,.int .i64 a3,.slice A0 l2.length c0]] rfl zq8 ?_;(with_reducible refine (laws_toMeta.calls k a1 a2 a3 _ _ l2 t0 t1 t2 t3 _ ?side1 ?side2 A2.1).mono ?_);(case side1=>exact Kd.C_below R0.1 (zq11 G0.1 G1.1 G2.1));(case side2=>exact C0.1);rintro e w11 ⟨v327,rfl,ho0,hb⟩;refine ⟨_,rfl,?_⟩;(first|have rs_v327:=zga (P:=Tryz.prog) ho0|have rs_v327:=zga (P:=Tryz.prog) (Kd.S_R ho0)|skip);have O0:=zz (Kd.S_lower ho0 (zD (zq11 G0.1 G1.1 G2.1)));replace B0:=zz (zg (g:=g0) (o:= .cells #[.int .i64 a0,.int .i64 a1,.int .i64 a2,.int .i64 a3,.slice A0 l2.length c0] 132 (0,0)) (zq46 N2.1 B0.1) hb);replace B2:=zz (zg (g:=g1) (o:= .cells #[.int .i64 0,.int .i64 0,.int .i64 0,.int .i64 0,.slice none 0 0] 135 (0,0)) (zq46 N4.1 B2.1) hb);replace B4:=zz (zg (g:=g2) (o:= .cells #[.int .i64 a0,.int .i64 0,.int .i64 0,.int .i64 0,.slice none 0 0] 135 (0,0)) (by (with_reducible repeat (first|refine zk ?_ _|refine zl ?_|refine zh ?_ _));refine zW (cs:= #[.int .i64 0,.int .i64 0,.int .i64 0,.int .i64 0,.slice none 0 0]) ?_ 0 _ rfl;(with_reducible repeat (first|refine zk ?_ _|refine zl ?_|refine zh ?_ _));exact B4.1) hb);replace HB:=zz (ze (zq11 G0.1 G1.1 G2.1) hb);(try clear hb);(try clear hb2);(try clear hk);(try clear hi);(try clear ho0);obtain ⟨_,_,_,_,_,_,_,_,_,_⟩:=zcell5 B4.1;obtain ⟨A4,c1,e0⟩:=Kd.S_slice O0.1;subst e0;obtain ⟨_,_,_,_,_,_,_,_,_,_⟩:=zcell5 B2.1))
 refine bodyPost_ret (results_cell_row rfl _ _ g1 135 #[.int .i64 a0,.int .i64 t0,.int .i64 t1,.int .i64 t2,.slice A4 t3.length c1] (0,0) _ rfl (by (with_reducible repeat (first|refine zk ?_ _|refine zl ?_|refine zh ?_ _));refine zW (cs:= #[.int .i64 a0,.int .i64 t0,.int .i64 t1,.int .i64 t2,.slice none 0 0]) ?_ 4 _ rfl;(with_reducible repeat (first|refine zk ?_ _|refine zl ?_|refine zh ?_ _));refine zW (cs:= #[.int .i64 a0,.int .i64 t0,.int .i64 t1,.int .i64 0,.slice none 0 0]) ?_ 3 _ rfl;(with_reducible repeat (first|refine zk ?_ _|refine zl ?_|refine zh ?_ _));refine zW (cs:= #[.int .i64 a0,.int .i64 t0,.int .i64 0,.int .i64 0,.slice none 0 0]) ?_ 2 _ rfl;(with_reducible repeat (first|refine zk ?_ _|refine zl ?_|refine zh ?_ _));refine zW (cs:= #[.int .i64 a0,.int .i64 0,.int .i64 0,.int .i64 0,.slice none 0 0]) ?_ 1 _ rfl;(with_reducible repeat (first|refine zk ?_ _|refine zl ?_|refine zh ?_ _));refine zW (cs:= #[.int .i64 0,.int .i64 0,.int .i64 0,.int .i64 0,.slice none 0 0]) ?_ 0 _ rfl;(with_reducible repeat (first|refine zk ?_ _|refine zl ?_|refine zh ?_ _));refine zka ?_ N4.1 _;(with_reducible repeat (first|refine zk ?_ _|refine zl ?_|refine zh ?_ _));refine zka ?_ N4.1 _;(with_reducible repeat (first|refine zk ?_ _|refine zl ?_|refine zh ?_ _));refine zka ?_ N4.1 _;(with_reducible repeat (first|refine zk ?_ _|refine zl ?_|refine zh ?_ _));refine zka ?_ N4.1 _;(with_reducible repeat (first|refine zk ?_ _|refine zl ?_|refine zh ?_ _));exact B2.1) Tryz.underlying135 rfl zq13) rfl ?_
 exact ⟨_,zq16,by (with_reducible repeat (first|apply Kd.S_alloc|apply Kd.S_drewN|apply Kd.S_drew));exact Kd.S_mono (Kd.S_far (p:=⟨g1,4,none⟩) (Kd.S_far (p:=⟨g1,3,none⟩) (Kd.S_far (p:=⟨g1,2,none⟩) (Kd.S_far (p:=⟨g1,1,none⟩) (Kd.S_far (p:=⟨g1,0,none⟩) (Kd.S_far (p:=⟨g2,4,none⟩) (Kd.S_far (p:=⟨g2,3,none⟩) (Kd.S_far (p:=⟨g2,2,none⟩) (Kd.S_far (p:=⟨g2,1,none⟩) (Kd.S_types (Kd.S_types O0.1 B4.1 zq31) B2.1 zq31) (fun _ hk=>hk.1.2) (.int .i64 t0)) (fun _ hk=>hk.1.2) (.int .i64 t1)) (fun _ hk=>hk.1.2) (.int .i64 t2)) (fun _ hk=>hk.1.2) (.slice A4 t3.length c1)) (fun _ hk=>hk.2) (.int .i64 a0)) (fun _ hk=>hk.2) (.int .i64 t0)) (fun _ hk=>hk.2) (.int .i64 t1)) (fun _ hk=>hk.2) (.int .i64 t2)) (fun _ hk=>hk.2) (.slice A4 t3.length c1)) (fun _ hk=>trivial),zq11 G0.1 G1.1 G2.1⟩
def laws_eqFree.f (k:Nat) (a0_0:Int) (l0_1:List Int) (a1_0:Int) (l1_1:List Int):Option (Bool):=if a0_0=a1_0 then ((laws_eqIntS.f k l0_1 l1_1).bind fun t116=>(if t116=true then (some true) else (none))) else (none)
theorem laws_eqFree.calls (k:Nat) (a0:Int) (A0:Option Addr) (c0:Nat) (l2:List Int) (a1:Int) (A1:Option Addr) (c1:Nat) (l3:List Int) (r:Bool) (w:World) (r0:Kd.C (Kd.int .i64) w A0 l2.length l2) (h0:l2.length≤c0) (r1:Kd.C (Kd.int .i64) w A1 l3.length l3) (h2:l3.length≤c1) (h:laws_eqFree.f k a0 l2 a1 l3=some r):
  Calls Tryz.prog 98 #[.agg #[.int .i64 a0,.slice A0 l2.length c0],.agg #[.int .i64 a1,.slice A1 l3.length c1]] w fun e w'=>e= .returned (.bool r)∧Below w.heap.size w w':=by
 have hu122:=Tryz.underlying112
 have R0:=zz r0
 have C0:=zz h0
 clear r0 h0
 have R1:=zz r1
 have C1:=zz h2
 clear r1 h2
 have HB:=zz (z1a w.heap.size w)
 have H:(if a0=a1 then ((laws_eqIntS.f k l2 l3).bind fun t0=>(if t0=true then (some true) else (none))) else (none))=some r:=h
 clear h
 by_cases c3:a0=a1
 ·rw [if_pos c3] at H
  have c3b0:(a0==a1)=true:=beq_iff_eq.mpr c3
  have c3b1:(a0 !=a1)=false:=bne_eq_false_iff_eq.mpr c3
  clear c3
  replace H:=z2a H
  obtain ⟨t0,A2,H⟩:=H
  replace H:(if t0=true then (some true) else (none))=some r:=H
  have A4:=zz A2
  clear A2
  by_cases c5:t0=true
  ·subst c5
   rw [if_pos rfl] at H
   obtain rfl:=z6a H
   go_enter Tryz.func98,Tryz.ntmps98
   go_wp2_with (first|((with_reducible refine zd (N:=2) rfl ?_);refine zx rfl (N:=2) rfl (cs:= #[.int .i64 a0,.slice A0 l2.length c0]) (t:=112) zq27 ?_;intro g0 hg w6 hbox hb;have B0:=zz hbox;have G0:=zz (zq15:w.heap.size≤g0);replace HB:=zz (ze zq0 hb);clear hb hbox hg)|((with_reducible refine zd (N:=3) rfl ?_);refine zx rfl (N:=3) rfl (cs:= #[.int .i64 a1,.slice A1 l3.length c1]) (t:=112) zq27 ?_;intro g1 hg w7 hbox hb;have B2:=zz hbox;have G1:=zz (zq25 G0.1:w.heap.size≤g1);have N0:=zz (by rw [hg];exact z8a (zP (g:=g0) (o:= .cells #[.int .i64 a0,.slice A0 l2.length c0] 112 (0,0)) (zq1 B0.1)):g0≠g1);have N1:=zz (by rw [hg];exact z7a (zP (g:=g0) (o:= .cells #[.int .i64 a0,.slice A0 l2.length c0] 112 (0,0)) (zq1 B0.1)):g1≠g0);replace B0:=zz (zg (g:=g0) (o:= .cells #[.int .i64 a0,.slice A0 l2.length c0] 112 (0,0)) (zq1 B0.1) hb);replace HB:=zz (ze (zq4 G0.1) hb);clear hb hbox hg;have hnb8:=N0.1;have hnc8:=N1.1;obtain ⟨_,_,_,_⟩:=zV B0.1;obtain ⟨_,_,_,_⟩:=zV B2.1)|((with_reducible refine zr (f:=99) rfl ?_);refine zN (some 14) rfl rfl Tryz.func99 zq13 rfl #[.slice A0 l2.length c0,.slice A1 l3.length c1] rfl zq8 ?_;(with_reducible refine (laws_eqIntS.calls k _ _ l2 _ _ l3 true _ ?side1 ?side2 ?side3 ?side4 A4.1).mono ?_);(case side1=>repeat (first|exact (Kd.C_below R0.1 HB.1)|(with_reducible refine Kd.C_alloc ?_ _)|(with_reducible refine Kd.C_drewN ?_ _)|(with_reducible refine Kd.C_drew ?_)));(case side2=>exact C0.1);(case side3=>repeat (first|exact (Kd.C_below R1.1 HB.1)|(with_reducible refine Kd.C_alloc ?_ _)|(with_reducible refine Kd.C_drewN ?_ _)|(with_reducible refine Kd.C_drew ?_)));(case side4=>exact C1.1);rintro e w' ⟨rfl,⟨nd,rfl⟩⟩;refine ⟨_,rfl,?_⟩))
   exact zq214
  ·replace c5:=Bool.eq_false_iff.mpr c5
   subst c5
   exact zq163
 ·exact zq166
end Go.Proofs.YtonhdiemjgdcnaaGreat.PFnExactGivePage
