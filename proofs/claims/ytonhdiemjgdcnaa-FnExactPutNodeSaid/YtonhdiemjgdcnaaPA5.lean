import Derived.Test.YtonhdiemjgdcnaaPA4
set_option maxHeartbeats 64000000
set_option maxRecDepth 100000
set_option linter.unusedVariables false
set_option linter.unusedSimpArgs false
namespace Go.Proofs.Ytonhdiemjgdcnaa.PFnExactGivePage
open Go.RowKit Go.Proofs.YtonhdiemjgdcnaaW.PrintWords Go.Proofs.YtonhdiemjgdcnaaW.PrintLast Go.Proofs.YtonhdiemjgdcnaaW.PrintMore
attribute [local go_sem] zO zP zY zX zK zJ zQ zR
theorem zDa {P:Program} {fn:Func} {p:Tmp} {ty:TypeId} (h:fn.results= #[.cell p ty]) (tmps:Array Value) (w:World) (g:Nat) (t:TypeId) (cs:Array Value) (fr:Nat×Nat) (d:TypeDesc)
  (hp:tmps.getD p undef= .pointer (some ⟨g,0,none⟩)) (hg:w.heap[g]?=some (.cells cs t fr))
  (hu:P.underlying ty=some d) (hd:(match d with| .struct _| .array _ _=>true|_=>false)=true) (hi:(P.info? ty).map (·.size)=some cs.size):
  (results fn tmps).run P w= .ok (.agg cs) w:=by
 have hp':tmps[p]?.getD undef= .pointer (some ⟨g,0,none⟩):=by simpa using hp
 simp [results,h,hp',asAddr,run_loadVar_row w g t ty cs fr d hg hu hd hi]
theorem one_of_K {α:Type} {d:Kd α} {w:World} {x:α} {cs:List Value} (h:d.K w x cs):∀v∈cs,v.oneCell'=true:=d.K_one h
def Fr (w w':World):Nat→Prop:=fun k=>w.heap.size≤k∧k<w'.heap.size
theorem toDisk_o (k:Nat) (l0:List ByteArray) (l1:List S140) (q0:List ByteArray) (q1:List S135) {cs:List Value} (w:World) (h:kDiskL.K w (l0,l1) cs) (hf:laws_toDisk.f k l0 l1=some (q0,q1)):
  Calls Try.prog 24 #[.agg cs.toArray] w fun e w'=>∃ds:List Value,e= .returned (.agg ds.toArray)∧kDisk.M w' w.heap.size (Fr w w') (q0,q1) ds∧Below w.heap.size w w':=by
 obtain ⟨A0,c0,A1,c1,rfl,m0,r0,m1,r1⟩:=kDiskL_open h
 refine (laws_toDisk.calls k A0 c0 l0 A1 c1 l1 q0 q1 w r0 m0 r1 m1 hf).mono ?_
 rintro e w' ⟨v0,v1,rfl,R0,R1,hb⟩
 have T0:=Own.R_tightB rfl R0
 have T1:=Own.R_tightB rfl R1
 exact ⟨[v0,v1],rfl,kDisk_mkM T0.1 T1.1 T0.2.1 T1.2.1 (Own.types_ne T0.2.2 T1.2.2 zq26),hb⟩
section
variable {P:Program} {ops:Array Oper} {rest:List Oper} {o:Oper} {a:Act} {Q:Exit→Act→World→Prop} {W:World}
theorem run_loadcell (ty:TypeId) (x:Operand) (ho:o.op= .load ty x) (g off:Nat) (pre:List Value) (v:Value) (post:List Value) {cs:List Value} {t:TypeId} {d:TypeDesc} (hx:a.eval x= .pointer (some ⟨g,off,none⟩)) (hg:W.heap[g]?=some (.cells cs.toArray t (0,0))) (e:cs=pre++([v]++post)) (hp:pre.length=off)
  (hu:P.underlying ty=some d) (hd:d.isRow=false):(execOp a.eval o).run P W= .ok (.value v) W:=by
 have hc:=part_cell hg e hp
 have hagg:(isAgg ty).run P W= .ok false W:=by
  unfold isAgg
  rw [Sem.run_bind,run_underlying hu W]
  cases d<;>simp_all
 unfold execOp
 simp [ho,hx,Instr.loadAt,Instr.sureAddr,Sem.run_bind,loadVar,hagg,run_load,hc]
theorem zF (hgd:o.guard=none) (ty:TypeId) (x:Operand) (ho:o.op= .load ty x) (g off:Nat) (pre:List Value) (v:Value) (post:List Value) {cs:List Value} {t:TypeId} {d:TypeDesc} (hx:a.eval x= .pointer (some ⟨g,off,none⟩)) (hg:W.heap[g]?=some (.cells cs.toArray t (0,0))) (e:cs=pre++([v]++post)) (hp:pre.length=off)
  (hu:P.underlying ty=some d) (hd:d.isRow=false) (h:wpList P ops Q rest (a.put o.dst v) W):wpList P ops Q (o::rest) a W:=by
 refine wpList_plain hgd fun K hK=> ?_
 unfold Oper.wp
 rw [run_loadcell ty x ho g off pre v post hx hg e hp hu hd]
 exact hK _ _ h
end
end Go.Proofs.Ytonhdiemjgdcnaa.PFnExactGivePage
namespace Go.Proofs.YtonhdiemjgdcnaaW.PrintLast
open Go.Proofs.YtonhdiemjgdcnaaW.PrintWords (Z0)
end Go.Proofs.YtonhdiemjgdcnaaW.PrintLast
namespace Go.Proofs.Ytonhdiemjgdcnaa.PFnExactGivePage
open Go.RowKit Go.Proofs.YtonhdiemjgdcnaaW.PrintWords Go.Proofs.YtonhdiemjgdcnaaW.PrintLast Go.Proofs.YtonhdiemjgdcnaaW.PrintMore
attribute [local go_sem] zO zP zY zX zK zJ zQ zR
structure Fct where
 lo:Nat
 hi:Nat
 P:World→Prop
 mv:∀{W W':World},(∀k,lo≤k→k<hi→W'.heap[k]?=W.heap[k]?)→P W→P W'
def Iv (lo hi:Nat):Nat→Prop:=fun k=>lo≤k∧k<hi
def Fct.box (g:Nat) (cs:List Value) (t:TypeId):Fct:=⟨g,g+1,fun W=>W.heap[g]?=some (.cells cs.toArray t (0,0)),fun h hp=>(h g (Nat.le_refl _) (Nat.lt_succ_self _)).trans hp⟩
def Fct.made {α:Type} (d:Kd α) (base lo hi:Nat) (ok:Nat→Prop) (x:α) (cs:List Value):Fct:=
 ⟨lo,hi,fun W=>d.M W base (fun k=>ok k∧Iv lo hi k) x cs,fun h hp=>d.M_move (fun k hk=>h k hk.2.1 hk.2.2) hp⟩
def All (W:World) (top:Nat):List Fct→Prop
 |[]=>True
 |f::fs=>(f.hi≤top∧f.P W)∧All W top fs
structure Env (w0 W:World) (top:Nat) (fs:List Fct):Prop where
 below:Below w0.heap.size w0 W
 le:top≤W.heap.size
 ge:w0.heap.size≤top
 all:All W top fs
def OffA (g:Nat):List Fct→Prop
 |[]=>True
 |f::fs=>(g<f.lo∨f.hi≤g)∧OffA g fs
def Off (g:Nat):List Fct→Nat→Prop
 |[],_=>True
 |_::fs,0=>OffA g fs
 |f::fs,n+1=>(g<f.lo∨f.hi≤g)∧Off g fs n
section
variable {w0 W W':World} {top top':Nat} {fs:List Fct}
theorem All.step (hk:∀k,k<top→W'.heap[k]?=W.heap[k]?) (ht:top≤top'):∀{fs:List Fct},All W top fs→All W' top' fs
 |[],_=>trivial
 |f::_,⟨⟨h1,h2⟩,h3⟩=>⟨⟨Nat.le_trans h1 ht,f.mv (fun k _ h=>hk k (Nat.lt_of_lt_of_le h h1)) h2⟩,All.step hk ht h3⟩
theorem All.offA {g:Nat} (hk:∀k,k≠g→W'.heap[k]?=W.heap[k]?):∀{fs:List Fct},All W top fs→OffA g fs→All W' top fs
 |[],_,_=>trivial
 |f::_,⟨⟨h1,h2⟩,h3⟩,⟨h4,h5⟩=>⟨⟨h1,f.mv (fun k h6 h7=>hk k (by rintro rfl;omega)) h2⟩,All.offA hk h3 h5⟩
theorem All.off {g:Nat} (hk:∀k,k≠g→W'.heap[k]?=W.heap[k]?) {f':Fct} (hf:f'.P W') (hh:∀f:Fct,f.hi≤top→f.lo≤g→g<f.hi→True):∀{fs:List Fct} (i:Nat),f'.hi≤top→All W top fs→Off g fs i→All W' top (fs.set i f')
 |[],i,_,_,_=>by cases i<;>exact trivial
 |_::_,0,ht,⟨_,h3⟩,h5=>⟨⟨ht,hf⟩,All.offA hk h3 h5⟩
 |f::_,i+1,ht,⟨⟨h1,h2⟩,h3⟩,⟨h4,h5⟩=>⟨⟨h1,f.mv (fun k h6 h7=>hk k (by rintro rfl;omega)) h2⟩,All.off hk hf hh i ht h3 h5⟩
theorem All.get:∀{fs:List Fct} (i:Nat) {f:Fct},All W top fs→fs[i]?=some f→f.hi≤top∧f.P W
 |[],i,_,_,h=>by simp at h
 |f::_,0,_,⟨h1,_⟩,h=>by simp at h;subst h;exact h1
 |_::_,i+1,_,⟨_,h3⟩,h=>All.get i h3 (by simpa using h)
theorem Env.start (w:World):Env w w w.heap.size []:=⟨Below.refl _ _,Nat.le_refl _,Nat.le_refl _,trivial⟩
theorem Env.get (E:Env w0 W top fs) (i:Nat) {f:Fct} (h:fs[i]?=some f):f.P W:=(All.get i E.all h).2
theorem Env.box (E:Env w0 W top fs) (i:Nat) {g:Nat} {cs:List Value} {t:TypeId} (h:fs[i]?=some (Fct.box g cs t)):W.heap[g]?=some (.cells cs.toArray t (0,0)):=E.get i h
theorem Env.made (E:Env w0 W top fs) (i:Nat) {α:Type} {d:Kd α} {base lo hi:Nat} {ok:Nat→Prop} {x:α} {cs:List Value} (h:fs[i]?=some (Fct.made d base lo hi ok x cs)):d.M W base (fun k=>ok k∧Iv lo hi k) x cs:=E.get i h
theorem Env.mk_ (E:Env w0 W top fs) (i:Nat) {α:Type} {d:Kd α} {base lo hi:Nat} {ok:Nat→Prop} {x:α} {cs:List Value} (h:fs[i]?=some (Fct.made d base lo hi ok x cs)):d.K W x cs:=d.K_of_M (E.made i h)
theorem Env.K (E:Env w0 W top fs) {α:Type} {d:Kd α} {x:α} {cs:List Value} (h:d.K w0 x cs):d.K W x cs:=d.K_below E.below h
theorem Env.alloc (E:Env w0 W top fs) (cs:List Value) (t:TypeId) {g:Nat} (hg:W.heap.size=g):Env w0 (W.alloc (.cells cs.toArray t)) (g+1) (Fct.box g cs t::fs):=by
 subst hg
 refine ⟨zg E.below _,by simp,Nat.le_succ_of_le E.below.size,⟨Nat.le_refl _,zta W _⟩,All.step (fun k h=>(zg (Below.refl W.heap.size W) (.cells cs.toArray t)).block k (Nat.lt_of_lt_of_le h E.le)) (Nat.le_succ_of_le E.le) E.all⟩
theorem Env.call (E:Env w0 W top fs) (hb:Below W.heap.size W W'):Env w0 W' top fs:=
 ⟨ze E.below hb,Nat.le_trans E.le hb.size,E.ge,All.step (fun k h=>hb.block k (Nat.lt_of_lt_of_le h E.le)) (Nat.le_refl _) E.all⟩
theorem Env.drew (E:Env w0 W top fs):Env w0 W.drew top fs:=E.call (Below.refl W.heap.size W).drew
theorem Env.made_ (E:Env w0 W top fs) {α:Type} {d:Kd α} {x:α} {cs:List Value} (M:d.M W' W.heap.size (Fr W W') x cs) (hb:Below W.heap.size W W'):∃n m,(top≤n∧n≤m)∧Env w0 W' m (Fct.made d w0.heap.size n m (fun _=>True) x cs::fs):=
 ⟨W.heap.size,W'.heap.size,⟨E.le,hb.size⟩,ze E.below hb,Nat.le_refl _,Nat.le_trans E.below.size hb.size,⟨Nat.le_refl _,d.M_lower E.below.size (d.M_mono (fun k hk=>⟨trivial,hk⟩) M)⟩,All.step (fun k h=>hb.block k (Nat.lt_of_lt_of_le h E.le)) (Nat.le_trans E.le hb.size) E.all⟩
theorem Env.put (E:Env w0 W top fs) (i:Nat) {g:Nat} {new:List Value} {t:TypeId} (hp:Put1 W W' g) (hn:W'.heap[g]?=some (.cells new.toArray t (0,0))) (hg:w0.heap.size≤g) (ht:g+1≤top) (ho:Off g fs i):Env w0 W' top (fs.set i (Fct.box g new t)):=by
 have hk:∀k,k≠g→W'.heap[k]?=W.heap[k]?:=by
  intro k hk
  by_cases hlt:k<W.heap.size
  ·exact hp.kept.2 k hlt hk
  ·rw [Array.getElem?_eq_none (show W'.heap.size≤k by rw [hp.size];omega),Array.getElem?_eq_none (show W.heap.size≤k by omega)]
 exact ⟨hp.below w0 hg E.below,by rw [hp.size];exact E.le,E.ge,All.off hk hn (fun _ _ _ _=>trivial) i ht E.all ho⟩
theorem Env.add (E:Env w0 W top fs) (f:Fct) (h1:f.hi≤top) (h2:f.P W):Env w0 W top (f::fs):=⟨E.below,E.le,E.ge,⟨h1,h2⟩,E.all⟩
end
section
variable {w0 W W':World} {top:Nat} {fs:List Fct} {p:Prop}
theorem ones_K {α:Type} {d:Kd α} {w:World} {x:α} {cs:List Value} (h:d.K w x cs):∀v∈cs,v.oneCell'=true:=d.K_one h
theorem Env.made4 (E:Env w0 W top fs) (O:p) {α:Type} {d:Kd α} {x:α} {cs:List Value} (z:Nat) (hz:d.sz=z) (M:d.M W' W.heap.size (Fr W W') x cs) (hb:Below W.heap.size W W'):∃n m,Z0 (cs.length=z)∧Z0 (∀v∈cs,v.oneCell'=true)∧Z0 ((top≤n∧n≤m)∧p)∧Z0 (Env w0 W' m (Fct.made d w0.heap.size n m (fun _=>True) x cs::fs)):=by
 obtain ⟨n,m,h1,h2⟩:=E.made_ M hb
 exact ⟨n,m,⟨(d.K_len (d.K_of_M M)).trans hz⟩,⟨ones_K (d.K_of_M M)⟩,⟨h1,O⟩,⟨h2⟩⟩
theorem Env.put2 (E:Env w0 W top fs) (i:Nat) {g:Nat} {new:List Value} {t:TypeId} (hp:Put1 W W' g) (hn:W'.heap[g]?=some (.cells new.toArray t (0,0))) (ho:w0.heap.size≤g∧g+1≤top∧Off g fs i):Z0 (Env w0 W' top (fs.set i (Fct.box g new t))):=⟨E.put i hp hn ho.1 ho.2.1 ho.2.2⟩
theorem Env.to (E:Env w0 W top fs) (h:W=W'):Z0 (Env w0 W' top fs):=⟨h▸E⟩
end
theorem zva {a b:List Value} (ha:∀v∈a,v.oneCell'=true) (hb:∀v∈b,v.oneCell'=true):∀v∈a++b,v.oneCell'=true:=fun v hv=>(List.mem_append.1 hv).elim (ha v) (hb v)
theorem ones1 {a:Value} (h:a.oneCell'=true):∀v∈[a],v.oneCell'=true:=fun v hv=>by rw [List.mem_singleton.1 hv];exact h
theorem onesC {a:Value} {l:List Value} (h:a.oneCell'=true) (hl:∀v∈l,v.oneCell'=true):∀v∈a::l,v.oneCell'=true:=fun v hv=>(List.mem_cons.1 hv).elim (fun e=>by rw [e];exact h) (hl v)
theorem onesN:∀v∈([]:List Value),v.oneCell'=true:=fun v hv=>by cases hv
theorem lump_ (l:List Value) (n:Nat) (h:l.length=n) (ho:∀v∈l,v.oneCell'=true):∃c,Z0 (c=l)∧Z0 (c.length=n)∧Z0 (∀v∈c,v.oneCell'=true):=⟨l,⟨rfl⟩,⟨h⟩,⟨ho⟩⟩
theorem s_A {α:Type _} (l:List α) (i:Nat) (a:α):l.toArray.setIfInBounds i a=(l.set i a).toArray:=List.setIfInBounds_toArray l i a
theorem s_0 {α:Type _} (x y:α) (xs:List α):(x::xs).set 0 y=y::xs:=rfl
theorem s_1 {α:Type _} (x y:α) (i:Nat) (xs:List α):(x::xs).set (i+1) y=x::xs.set i y:=rfl
theorem comb {α β:Type} {a:Kd α} {b:Kd β} {W:World} {base:Nat} {p q:Nat→Prop} {x:α} {y:β} {c0 c1:List Value} (ha:a.M W base p x c0) (hb:b.M W base q y c1) (hd:∀k,p k→¬q k):(Own.apair a b).M W base (fun k=>p k∨q k) (x,y) (c0++c1):=
 Own.apair_mk ha hb (fun _ h=> .inl h) (fun _ h=> .inr h) hd
theorem Mint {W:World} {base:Nat} {n:Int}:(Kd.int .i64).M W base (fun _=>False) n [.int .i64 n]:=rfl
theorem Mbool {W:World} {base:Nat} {b:Bool}:Kd.bool.M W base (fun _=>False) b [.bool b]:=rfl
theorem fresh {α:Type} {d:Kd α} {w W:World} {base:Nat} {p:Nat→Prop} {x:α} {cs:List Value} (h:d.M W base p x cs) (hb:w.heap.size≤base):d.M W w.heap.size (Fr w W) x cs:=
 d.M_mono (fun k hk=>⟨hk.2.1,hk.2.2.1⟩) (d.M_bound (d.M_lower hb h))
theorem aA {α:Type} (x y z:List α):x++y++z=x++(y++z):=List.append_assoc x y z
theorem aN {α:Type} (x:List α):[]++x=x:=rfl
theorem aL {α:Type} (x:List α):x++[]=x:=List.append_nil x
end Go.Proofs.Ytonhdiemjgdcnaa.PFnExactGivePage
namespace Go.Proofs.YtonhdiemjgdcnaaW.PrintLast
open Go.Proofs.YtonhdiemjgdcnaaW.PrintWords (Z0)
inductive Tre where
 |d
 |p (i:Nat) (r:Tre)|t (i:Nat) (r:Tre)|e (i:Nat) (r:Tre)|l (i:Nat) (r:Tre)
 |two (i j:Nat) (ri rj:Tre)
 |three (i j k:Nat) (ri rj rk:Tre)
 |four (i j k m:Nat) (ri rj rk rm:Tre)
section
variable {P:Program} {ops:Array Oper} {Q:Exit→Act→World→Prop} {S:World→Prop} {ds:List Nat} {T:Bool×List (List Nat×List Nat)} {B:List Nat} {N:Option Tmp} {o:Oper} {v:Value} {a:Act} {w:World} {i j:Nat} {r ri rj:Tre}
def zra (T:Bool×List (List Nat×List Nat)) (B ds:List Nat):Nat→Bool→List Bool→Tre→Bool
 |_,_,l,.d=>readyT T.2 l==[]
 |n+1,k,l,.p i r=>(T.1&&freeT T.2 l i&&zdb T.2 l i)&&zra T B ds n k (l.set i true) r
 |n+1,k,l,.t i r=>(k&&takeW T B ds l (l.set i true) i)&&zra T B ds n k (l.set i true) r
 |n+1,_,l,.e i r=>(readyT T.2 l==[i]&& !ds.contains i)&&zra T B ds n true (l.set i true) r
 |n+1,_,l,.l i r=>(readyT T.2 l==[i]&&ds.contains i)&&zra T B ds n false (l.set i true) r
 |n+1,_,l,.two i j ri rj=>(readyT T.2 l==[i,j]&& !ds.contains i&& !ds.contains j)&&zra T B ds n true (l.set i true) ri&&zra T B ds n true (l.set j true) rj
 |n+1,_,l,.three i j k ri rj rk=>(readyT T.2 l==[i,j,k]&& !ds.contains i&& !ds.contains j&& !ds.contains k)&&zra T B ds n true (l.set i true) ri&&zra T B ds n true (l.set j true) rj&&zra T B ds n true (l.set k true) rk
 |n+1,_,l,.four i j k m ri rj rk rm=>(readyT T.2 l==[i,j,k,m]&& !ds.contains i&& !ds.contains j&& !ds.contains k&& !ds.contains m)&&zra T B ds n true (l.set i true) ri&&zra T B ds n true (l.set j true) rj&&zra T B ds n true (l.set k true) rk&&zra T B ds n true (l.set m true) rm
 |0,_,_,_=>false
def regT (ops:Array Oper) (T:Bool×List (List Nat×List Nat)) (B ds:List Nat) (r:Tre):Bool:=rtab .any ops==T&&zza T.2 B&&zra T B ds ops.size true (List.replicate ops.size false) r
theorem put_withT (a:Act) (d:Option Tmp) (v:Value):a.put d v={a with tmps:=(a.put d v).tmps}:=by cases d<;>rfl
def Ev1 (P:Program) (o:Oper) (ops:Array Oper) (Q:Exit→Act→World→Prop) (a:Act) (w:World) (G:Act→World→Prop):Prop:=
 ∀K:Act→World→Prop,Shut (∀a' w',G a' w'→K a' w')→if Region.wanted o (yielded ops a.tmps)=true then Oper.wp P o a w K Q else K (a.put o.dst undef) w
def zZ (P:Program) (ops:Array Oper) (Q:Exit→Act→World→Prop) (S:World→Prop):Tre→Act→World→Prop
 | .d,a,w=>Q .normal a w
 | .p i r,a,w=>∃o v,ops[i]?=some o∧Yields P ops o v a∧zZ P ops Q S r (a.put o.dst v) w
 | .t i r,a,w=>∃o v,ops[i]?=some o∧YieldsIf P ops S o v a∧zZ P ops Q S r (a.put o.dst v) w
 | .e i r,a,w=>∃o,ops[i]?=some o∧Ev1 P o ops Q a w (fun a' w'=>S w'∧(S w'→zZ P ops Q S r a' w'))
 | .l i r,a,w=>∃o,ops[i]?=some o∧Ev1 P o ops Q a w (fun a' w'=>zZ P ops Q S r a' w')
 | .two i j ri rj,a,w=>(∃o,ops[i]?=some o∧Ev1 P o ops Q a w (fun a' w'=>S w'∧(S w'→zZ P ops Q S ri a' w')))∧(∃o,ops[j]?=some o∧Ev1 P o ops Q a w (fun a' w'=>S w'∧(S w'→zZ P ops Q S rj a' w')))
 | .three i j k ri rj rk,a,w=>(∃o,ops[i]?=some o∧Ev1 P o ops Q a w (fun a' w'=>S w'∧(S w'→zZ P ops Q S ri a' w')))∧(∃o,ops[j]?=some o∧Ev1 P o ops Q a w (fun a' w'=>S w'∧(S w'→zZ P ops Q S rj a' w')))∧(∃o,ops[k]?=some o∧Ev1 P o ops Q a w (fun a' w'=>S w'∧(S w'→zZ P ops Q S rk a' w')))
 | .four i j k m ri rj rk rm,a,w=>(∃o,ops[i]?=some o∧Ev1 P o ops Q a w (fun a' w'=>S w'∧(S w'→zZ P ops Q S ri a' w')))∧(∃o,ops[j]?=some o∧Ev1 P o ops Q a w (fun a' w'=>S w'∧(S w'→zZ P ops Q S rj a' w')))∧(∃o,ops[k]?=some o∧Ev1 P o ops Q a w (fun a' w'=>S w'∧(S w'→zZ P ops Q S rk a' w')))∧(∃o,ops[m]?=some o∧Ev1 P o ops Q a w (fun a' w'=>S w'∧(S w'→zZ P ops Q S rm a' w')))
theorem zM (hT:rtab .any ops=T) (hB:zza T.2 B=true) (hQ:∀c (a:Act) ts w,Q (.panic c) {a with tmps:=ts} w→Q (.panic c) a w):∀(r:Tre) (n:Nat) (k:Bool) (l:List Bool) (a:Act) (w:World),
  zra T B ds n k l r=true→(k=true→S w)→zZ P ops Q S r a w→zC P .any ops Q S ds n l.toArray a w
 | .d,n,k,l,a,w,hc,hS,h=>done_ (by subst hT;rw [zYa];cases n<;>simpa [zra] using hc) h
 | .p i r,0,k,l,a,w,hc,hS,h=>by simp [zra] at hc
 | .p i r,n+1,k,l,a,w,hc,hS,h=>by
  simp only [zra,Bool.and_eq_true] at hc
  obtain ⟨⟨⟨h1,h2⟩,h3⟩,h4⟩:=hc
  obtain ⟨o,v,ho,hy,hr⟩:=h
  refine zca (l.set i true).toArray ho rfl (zV hT ?_) (fun c a w hh=>hQ c a (a.put o.dst v).tmps w (by rw [←put_withT];exact hh)) hy rfl (zM hT hB hQ r n k _ _ w h4 hS hr)
  simp only [anyT,Bool.and_eq_true]
  exact ⟨⟨⟨h1,h2⟩,h3⟩,by simp⟩
 | .t i r,0,k,l,a,w,hc,hS,h=>by simp [zra] at hc
 | .t i r,n+1,k,l,a,w,hc,hS,h=>by
  simp only [zra,Bool.and_eq_true] at hc
  obtain ⟨⟨h1,h2⟩,h4⟩:=hc
  obtain ⟨o,v,ho,hy,hr⟩:=h
  exact take_ (l.set i true).toArray ho rfl (zaa hT hB h2) (fun c a w hh=>hQ c a (a.put o.dst v).tmps w (by rw [←put_withT];exact hh)) hy (hS h1) rfl (zM hT hB hQ r n k _ _ w h4 hS hr)
 | .e i r,0,k,l,a,w,hc,hS,h=>by simp [zra] at hc
 | .e i r,n+1,k,l,a,w,hc,hS,h=>by
  simp only [zra,Bool.and_eq_true] at hc
  obtain ⟨⟨h1,h2⟩,h4⟩:=hc
  obtain ⟨o,ho,hr⟩:=h
  refine one_ (l.set i true).toArray ho rfl (zoa hT ?_) (by simpa using h2) (fun K hK=>hr K (fun a' w' hs=>hK.out a' w' hs.1 fun hs2=>zM hT hB hQ r n true _ a' w' h4 (fun _=>hs2) (hs.2 hs2)))
  simp only [Bool.and_eq_true]
  exact ⟨h1,by simp⟩
 | .l i r,0,k,l,a,w,hc,hS,h=>by simp [zra] at hc
 | .l i r,n+1,k,l,a,w,hc,hS,h=>by
  simp only [zra,Bool.and_eq_true] at hc
  obtain ⟨⟨h1,h2⟩,h4⟩:=hc
  obtain ⟨o,ho,hr⟩:=h
  refine last_ (l.set i true).toArray ho rfl (zoa hT ?_) (by simpa using h2) (fun K hK=>hr K (fun a' w' hs=>hK.out a' w' (zM hT hB hQ r n false _ a' w' h4 (fun h=>by cases h) hs)))
  simp only [Bool.and_eq_true]
  exact ⟨h1,by simp⟩
 | .two i j ri rj,0,k,l,a,w,hc,hS,h=>by simp [zra] at hc
 | .two i j ri rj,n+1,k,l,a,w,hc,hS,h=>by
  simp only [zra,Bool.and_eq_true] at hc
  obtain ⟨⟨⟨⟨h1,h2⟩,h3⟩,h4⟩,h5⟩:=hc
  obtain ⟨⟨oi,hoi,hri⟩,oj,hoj,hrj⟩:=h
  refine two_ (l.set i true).toArray (l.set j true).toArray hoi hoj rfl rfl (two_of hT ?_) (by simpa using h2) (by simpa using h3) (fun K hK=>hri K (fun a' w' hs=>hK.out a' w' hs.1 fun hs2=>zM hT hB hQ ri n true _ a' w' h4 (fun _=>hs2) (hs.2 hs2))) (fun K hK=>hrj K (fun a' w' hs=>hK.out a' w' hs.1 fun hs2=>zM hT hB hQ rj n true _ a' w' h5 (fun _=>hs2) (hs.2 hs2)))
  simp only [Bool.and_eq_true]
  exact ⟨⟨h1,by simp⟩,by simp⟩
 | .three i j k ri rj rk,0,k_,l,a,w,hc,hS,h=>by simp [zra] at hc
 | .three i j k ri rj rk,n+1,k_,l,a,w,hc,hS,h=>by
  simp only [zra,Bool.and_eq_true,beq_iff_eq] at hc
  obtain ⟨⟨⟨⟨⟨⟨h1,ci⟩,cj⟩,ck⟩,wi⟩,wj⟩,wk⟩:=hc
  obtain ⟨⟨oi,hoi,hri⟩,⟨oj,hoj,hrj⟩,⟨ok,hok,hrk⟩⟩:=h
  refine zka (rs:=[i,j,k]) (by rw [zYa,hT];exact h1) zq52 (AllReadyL.cons hoi (by simpa using ci) (fun K hK=>hri K (fun a' w' hs=>hK.out a' w' hs.1 fun hs2=>by rw [show l.toArray.setIfInBounds i true=(l.set i true).toArray by simp];exact zM hT hB hQ ri n true _ a' w' wi (fun _=>hs2) (hs.2 hs2))) (AllReadyL.cons hoj (by simpa using cj) (fun K hK=>hrj K (fun a' w' hs=>hK.out a' w' hs.1 fun hs2=>by rw [show l.toArray.setIfInBounds j true=(l.set j true).toArray by simp];exact zM hT hB hQ rj n true _ a' w' wj (fun _=>hs2) (hs.2 hs2))) (AllReadyL.cons hok (by simpa using ck) (fun K hK=>hrk K (fun a' w' hs=>hK.out a' w' hs.1 fun hs2=>by rw [show l.toArray.setIfInBounds k true=(l.set k true).toArray by simp];exact zM hT hB hQ rk n true _ a' w' wk (fun _=>hs2) (hs.2 hs2))) AllReadyL.nil)))
 | .four i j k m ri rj rk rm,0,k_,l,a,w,hc,hS,h=>by simp [zra] at hc
 | .four i j k m ri rj rk rm,n+1,k_,l,a,w,hc,hS,h=>by
  simp only [zra,Bool.and_eq_true,beq_iff_eq] at hc
  obtain ⟨⟨⟨⟨⟨⟨⟨⟨h1,ci⟩,cj⟩,ck⟩,cm⟩,wi⟩,wj⟩,wk⟩,wm⟩:=hc
  obtain ⟨⟨oi,hoi,hri⟩,⟨oj,hoj,hrj⟩,⟨ok,hok,hrk⟩,⟨om,hom,hrm⟩⟩:=h
  refine zka (rs:=[i,j,k,m]) (by rw [zYa,hT];exact h1) zq52 (AllReadyL.cons hoi (by simpa using ci) (fun K hK=>hri K (fun a' w' hs=>hK.out a' w' hs.1 fun hs2=>by rw [show l.toArray.setIfInBounds i true=(l.set i true).toArray by simp];exact zM hT hB hQ ri n true _ a' w' wi (fun _=>hs2) (hs.2 hs2))) (AllReadyL.cons hoj (by simpa using cj) (fun K hK=>hrj K (fun a' w' hs=>hK.out a' w' hs.1 fun hs2=>by rw [show l.toArray.setIfInBounds j true=(l.set j true).toArray by simp];exact zM hT hB hQ rj n true _ a' w' wj (fun _=>hs2) (hs.2 hs2))) (AllReadyL.cons hok (by simpa using ck) (fun K hK=>hrk K (fun a' w' hs=>hK.out a' w' hs.1 fun hs2=>by rw [show l.toArray.setIfInBounds k true=(l.set k true).toArray by simp];exact zM hT hB hQ rk n true _ a' w' wk (fun _=>hs2) (hs.2 hs2))) (AllReadyL.cons hom (by simpa using cm) (fun K hK=>hrm K (fun a' w' hs=>hK.out a' w' hs.1 fun hs2=>by rw [show l.toArray.setIfInBounds m true=(l.set m true).toArray by simp];exact zM hT hB hQ rm n true _ a' w' wm (fun _=>hs2) (hs.2 hs2))) AllReadyL.nil))))
theorem zxa {id:Nat} (hc:regT ops T B ds r=true) (hm:P.follows .mixedOrders=true) (hQ:∀c (a:Act) ts w,Q (.panic c) {a with tmps:=ts} w→Q (.panic c) a w) (hS:S w.drew) (h:S w.drew→zZ P ops Q S r a w.drew):(Code.region id ops true).wp P Q a w:=by
 simp only [regT,Bool.and_eq_true,beq_iff_eq] at hc
 obtain ⟨⟨h1,h2⟩,h4⟩:=hc
 refine start_ (ds:=ds) (List.replicate ops.size false).toArray hm rfl zq52 hS (fun hs=> ?_)
 exact zM h1 h2 hQ r _ true _ a _ h4 (fun _=>hs) (h hs)
theorem zha (ho:ops[i]?=some o) (hN:o.dst=N) (hy:Yields P ops o v a) {a':Act} (ha:a.put N v=a') (h:zZ P ops Q S r a' w):zZ P ops Q S (.p i r) a w:=by
 subst hN;subst ha;exact ⟨o,v,ho,hy,h⟩
theorem tre_t (ho:ops[i]?=some o) (hN:o.dst=N) (hy:YieldsIf P ops S o v a) {a':Act} (ha:a.put N v=a') (h:zZ P ops Q S r a' w):zZ P ops Q S (.t i r) a w:=by
 subst hN;subst ha;exact ⟨o,v,ho,hy,h⟩
theorem zwa (ho:ops[i]?=some o) (h:Ev1 P o ops Q a w (fun a' w'=>S w'∧(S w'→zZ P ops Q S r a' w'))):zZ P ops Q S (.e i r) a w:=⟨o,ho,h⟩
theorem tre_l (ho:ops[i]?=some o) (h:Ev1 P o ops Q a w (fun a' w'=>zZ P ops Q S r a' w')):zZ P ops Q S (.l i r) a w:=⟨o,ho,h⟩
theorem zcb {oj:Oper} (ho:ops[i]?=some o) (hoj:ops[j]?=some oj) (h:Ev1 P o ops Q a w (fun a' w'=>S w'∧(S w'→zZ P ops Q S ri a' w'))) (h2:Ev1 P oj ops Q a w (fun a' w'=>S w'∧(S w'→zZ P ops Q S rj a' w'))):zZ P ops Q S (.two i j ri rj) a w:=⟨⟨o,ho,h⟩,oj,hoj,h2⟩
theorem tre_three {k:Nat} {rk:Tre} {oj ok:Oper} (ho:ops[i]?=some o) (hoj:ops[j]?=some oj) (hok:ops[k]?=some ok) (h:Ev1 P o ops Q a w (fun a' w'=>S w'∧(S w'→zZ P ops Q S ri a' w'))) (h2:Ev1 P oj ops Q a w (fun a' w'=>S w'∧(S w'→zZ P ops Q S rj a' w'))) (h3:Ev1 P ok ops Q a w (fun a' w'=>S w'∧(S w'→zZ P ops Q S rk a' w'))):zZ P ops Q S (.three i j k ri rj rk) a w:=⟨⟨o,ho,h⟩,⟨oj,hoj,h2⟩,ok,hok,h3⟩
theorem tre_four {k m:Nat} {rk rm:Tre} {oj ok om:Oper} (ho:ops[i]?=some o) (hoj:ops[j]?=some oj) (hok:ops[k]?=some ok) (hom:ops[m]?=some om) (h:Ev1 P o ops Q a w (fun a' w'=>S w'∧(S w'→zZ P ops Q S ri a' w'))) (h2:Ev1 P oj ops Q a w (fun a' w'=>S w'∧(S w'→zZ P ops Q S rj a' w'))) (h3:Ev1 P ok ops Q a w (fun a' w'=>S w'∧(S w'→zZ P ops Q S rk a' w'))) (h4:Ev1 P om ops Q a w (fun a' w'=>S w'∧(S w'→zZ P ops Q S rm a' w'))):zZ P ops Q S (.four i j k m ri rj rk rm) a w:=⟨⟨o,ho,h⟩,⟨oj,hoj,h2⟩,⟨ok,hok,h3⟩,om,hom,h4⟩
theorem zia (h:Q .normal a w):zZ P ops Q S .d a w:=h
theorem zy {a':Act} (ha:a=a') (h:zZ P ops Q S r a' w):zZ P ops Q S r a w:=by subst ha;exact h
theorem zH {G:Act→World→Prop} {f:FuncId} {fn:Func} {aa:Array Operand} {ts:Array TypeId} (hN:o.dst=N) (hf:P.funcs[f]?=some fn) (hname:(fn.name== "runtime.NumGoroutine")=false) (hb:fn.body.isSome=true) (args:Array Value)
  (hw:Region.wanted o (yielded ops a.tmps)=true) (hop:o.op= .call {callee:= .value (.func f),args:=aa,argTypes:=ts}) (hargs:aa.map a.eval=args)
  (h:Calls P f args w fun e w'=>∃v,e= .returned v∧G (a.put N v) w'):Ev1 P o ops Q a w G:=by
 subst hN
 exact fun K hK=>goes_ hf hname hb args hw rfl hop hargs (h.mono fun e w' ⟨v,he,hk⟩=>⟨v,he,hK.out _ _ hk⟩)
theorem zya {G:Act→World→Prop} (hN:o.dst=N) (hw:Region.wanted o (yielded ops a.tmps)=true) (ty:TypeId) (hop:o.op= .alloc ty) (cs:List Value) (hz:(zeroValue ty).run P w= .ok (.agg cs.toArray) w)
  (h:G (a.put N (.pointer (some ⟨w.heap.size,0,none⟩))) (w.alloc (.cells cs.toArray ty))):Ev1 P o ops Q a w G:=by
 intro K hK
 subst hN
 rw [if_pos hw]
 unfold Oper.wp execOp
 simp only [hop,Instr.alloc,Sem.run_bind,hz,Result.andThen_ok,newVar,Value.cells,Sem.run_pure]
 exact hK.out _ _ h
end
end Go.Proofs.YtonhdiemjgdcnaaW.PrintLast
namespace Go.Proofs.Ytonhdiemjgdcnaa.PFnExactGivePage
open Go.RowKit Go.Proofs.YtonhdiemjgdcnaaW.PrintWords Go.Proofs.YtonhdiemjgdcnaaW.PrintLast Go.Proofs.YtonhdiemjgdcnaaW.PrintMore
section
variable {P:Program} {ops:Array Oper} {Q:Exit→Act→World→Prop} {S:World→Prop} {G:Act→World→Prop} {N:Option Tmp} {o:Oper} {a:Act} {w:World} {i:Nat} {r:Tre}
theorem zS (ho:ops[i]?=some o) (hN:o.dst=N) (hw:Region.wanted o (yielded ops a.tmps)=true) (ty:TypeId) (x:Operand) (hop:o.op= .load ty x) (g off:Nat) (pre mid post:List Value) {cs:List Value} {t:TypeId} (d:TypeDesc) (hx:a.eval x= .pointer (some ⟨g,off,none⟩)) (hg:∀w',S w'→w'.heap[g]?=some (.cells cs.toArray t (0,0))) (e:cs=pre++(mid++post)) (hp:pre.length=off)
  (hu:P.underlying ty=some d) (hd:d.isRow=true) (hi:(P.info? ty).map (·.size)=some mid.length) {a':Act} (ha:a.put N (.agg mid.toArray)=a') (h:zZ P ops Q S r a' w):zZ P ops Q S (.t i r) a w:=
 tre_t ho hN (.inl ⟨hw,fun w' hs=>run_loadpart ty x hop g off pre mid post d hx (hg w' hs) e hp hu hd hi⟩) ha h
theorem zI (ho:ops[i]?=some o) (hN:o.dst=N) (hw:Region.wanted o (yielded ops a.tmps)=true) (ty:TypeId) (x:Operand) (hop:o.op= .load ty x) (g off:Nat) (pre:List Value) (v:Value) (post:List Value) {cs:List Value} {t:TypeId} (d:TypeDesc) (hx:a.eval x= .pointer (some ⟨g,off,none⟩)) (hg:∀w',S w'→w'.heap[g]?=some (.cells cs.toArray t (0,0))) (e:cs=pre++([v]++post)) (hp:pre.length=off)
  (hu:P.underlying ty=some d) (hd:d.isRow=false) {a':Act} (ha:a.put N v=a') (h:zZ P ops Q S r a' w):zZ P ops Q S (.t i r) a w:=
 tre_t ho hN (.inl ⟨hw,fun w' hs=>run_loadcell ty x hop g off pre v post hx (hg w' hs) e hp hu hd⟩) ha h
theorem zL (hN:o.dst=none) (hw:Region.wanted o (yielded ops a.tmps)=true) (ty:TypeId) (x y:Operand) (hop:o.op= .store ty x y) (g off:Nat) (new pre mid post:List Value) {cs:List Value} {t:TypeId} (hx:a.eval x= .pointer (some ⟨g,off,none⟩)) (hy:a.eval y= .agg new.toArray) (hg:w.heap[g]?=some (.cells cs.toArray t (0,0))) (e:cs=pre++(mid++post)) (hp:pre.length=off)
  (hl:new.length=mid.length) (hi:(P.info? ty).map (·.size)=some new.length) (h1:∀v∈new,v.oneCell'=true)
  (h:∀W',Put1 w W' g→W'.heap[g]?=some (.cells (pre++(new++post)).toArray t (0,0))→G a W'):Ev1 P o ops Q a w G:=by
 intro K hK
 rw [if_pos hw]
 refine wp_store_mid ty x y hop g off new.toArray hx hy (by have:=part_there hg e hp;rw [List.size_toArray,hl];exact this) (by rw [List.size_toArray];exact hi) (Array.all_eq_true_iff_forall_mem.2 (fun v hv=>h1 v (by simpa using hv))) ?_
 rw [show a.put o.dst undef=a by rw [hN];rfl]
 refine hK.out _ _ (h _ (Put1.cells off _) ?_)
 subst e;subst hp
 exact part_set new mid pre post w hl hg
theorem fill_seg {pl:Nat→Option (Nat×Nat)} {i:Nat} {v:Value} {new pre mid post cs:List Value} {rest:List (Nat×Value)} {z:Option (Array Value)} (hv:v.cells=new.toArray) (e:cs=pre++(mid++post)) (hp:pl i=some (pre.length,new.length)) (hl:new.length=mid.length)
  (h:Instr.fill pl (pre++(new++post)).toArray rest=z):Instr.fill pl cs.toArray ((i,v)::rest)=z:=by
 subst e
 subst h
 have hz:∀(new mid pre post:List Value),new.length=mid.length→(new.zipIdx).foldl (fun (cs:Array Value) (c,j)=>cs.setIfInBounds (pre.length+j) c) (pre++(mid++post)).toArray=(pre++(new++post)).toArray:=by
  intro new
  induction new with
  |nil=>intro mid pre post h;cases mid<;>simp_all
  |cons n ns ih=>
   intro mid pre post h
   cases mid with
   |nil=>simp at h
   |cons m ms=>
    have ih:=ih ms (pre++[n]) post (by simpa using h)
    rw [List.zipIdx_cons,List.foldl_cons]
    have hs:(pre++((m::ms)++post)).toArray.setIfInBounds (pre.length+0) n=((pre++[n])++(ms++post)).toArray:=zq52
    simp only [hs]
    have h2:(ns.zipIdx (0+1)).foldl (fun (cs:Array Value) (x:Value×Nat)=>cs.setIfInBounds (pre.length+x.2) x.1) ((pre++[n])++(ms++post)).toArray=(ns.zipIdx).foldl (fun (cs:Array Value) (x:Value×Nat)=>cs.setIfInBounds ((pre++[n]).length+x.2) x.1) ((pre++[n])++(ms++post)).toArray:=by
     rw [List.zipIdx_succ,List.foldl_map]
     congr 1
     funext cs x
     simp [Nat.add_assoc,Nat.add_comm 1]
    refine Eq.trans h2 ?_
    rw [ih]
    simp
 simp only [Instr.fill,hp,hv,List.size_toArray]
 rw [if_neg (by simp [hl])]
 have:=hz new mid pre post hl
 rw [←this]
 congr 1
 simp [←Array.foldl_toList]
theorem run_build (ty:TypeId) (parts:Array (Nat×Operand)) (ho:o.op= .build ty parts) (zs:List Value) (hz:∀w,(zeroValue ty).run P w= .ok (.agg zs.toArray) w) (fields:Array Field) (hu:P.underlying ty=some (.struct fields)) (pl:Array (Nat×Nat))
  (hp:∀w,(fields.mapM fun f=>do pure (f.offset,←sizeOf f.type):Sem (Array (Nat×Nat))).run P w= .ok pl w) (vs:List (Nat×Value)) (hvs:parts.map (fun (i,x)=>(i,a.eval x))=vs.toArray) (res:List Value) (hf:Instr.fill (pl[·]?) zs.toArray vs=some res.toArray):∀W,(execOp a.eval o).run P W= .ok (.value (.agg res.toArray)) W:=by
 intro W
 have hv2:Array.map (fun x=>(x.1,a.eval x.2)) parts=vs.toArray:=hvs
 unfold execOp
 simp only [ho,Instr.build,Sem.run_bind,hz,Result.andThen_ok,run_underlying hu,hp,Value.cells,hv2,hf,Sem.run_pure,Sem.run_map,Functor.map]
end
end Go.Proofs.Ytonhdiemjgdcnaa.PFnExactGivePage
namespace Go.Proofs.Ytonhdiemjgdcnaa.PFnExactGivePage
open Go.RowKit Go.Proofs.YtonhdiemjgdcnaaW.PrintWords Go.Proofs.YtonhdiemjgdcnaaW.PrintLast Go.Proofs.YtonhdiemjgdcnaaW.PrintMore
attribute [local go_sem] zO zP zY zX zK zJ zQ zR
abbrev Z32:List Value:=[.slice none 0 0,.slice none 0 0]
abbrev Z34:List Value:=[.slice none 0 0,.slice none 0 0,.int .i64 0,.slice none 0 0,.slice none 0 0,.slice none 0 0]
theorem Env.cell {w0 W:World} {top:Nat} {fs:List Fct} (E:Env w0 W top fs) {a:Addr} {v:Value} (h:w0.cell? a=some v):W.cell? a=some v:=(E.below.cell (World.block_lt_of_cell? w0 _ h)).trans h
section
variable {P:Program} {ops:Array Oper} {rest:List Oper} {o:Oper} {a:Act} {Q:Exit→Act→World→Prop} {W:World}
theorem ev_loadpart_w (hw:Region.wanted o (yielded ops a.tmps)=true) (ty:TypeId) (x:Operand) (ho:o.op= .load ty x) (g off:Nat) (pre mid post:List Value) {cs:List Value} {t:TypeId} (d:TypeDesc) (hx:a.eval x= .pointer (some ⟨g,off,none⟩)) (hg:W.heap[g]?=some (.cells cs.toArray t (0,0))) (e:cs=pre++(mid++post)) (hp:pre.length=off)
  (hu:P.underlying ty=some d) (hd:d.isRow=true) (hi:(P.info? ty).map (·.size)=some mid.length) (h:wpList P ops Q rest (a.put o.dst (.agg mid.toArray)) W):wpList P ops Q (o::rest) a W:=by
 refine wpList_step fun K hK=> ?_
 rw [if_pos hw]
 unfold Oper.wp
 rw [run_loadpart ty x ho g off pre mid post d hx hg e hp hu hd hi]
 exact hK _ _ h
end
def Off2 (lo hi:Nat):List Fct→Nat→Prop
 |[],_=>True
 |_::fs,0=>Off2A lo hi fs
 |f::fs,n+1=>(f.hi≤lo∨hi≤f.lo)∧Off2 lo hi fs n
where Off2A (lo hi:Nat):List Fct→Prop
 |[]=>True
 |f::fs=>(f.hi≤lo∨hi≤f.lo)∧Off2A lo hi fs
theorem All.off2A {W W':World} {top top' lo hi:Nat} (hk:∀k,k<top→(k<lo∨hi≤k)→W'.heap[k]?=W.heap[k]?) (ht:top≤top'):∀{fs:List Fct},All W top fs→Off2.Off2A lo hi fs→All W' top' fs
 |[],_,_=>trivial
 |f::_,⟨⟨h1,h2⟩,h3⟩,⟨h4,h5⟩=>⟨⟨Nat.le_trans h1 ht,f.mv (fun k h6 h7=>hk k zq11 zq11) h2⟩,All.off2A hk ht h3 h5⟩
theorem All.off2 {W W':World} {top top' lo hi:Nat} (hk:∀k,k<top→(k<lo∨hi≤k)→W'.heap[k]?=W.heap[k]?) (ht:top≤top') {f':Fct} (h1':f'.hi≤top') (hf:f'.P W'):∀{fs:List Fct} (i:Nat),All W top fs→Off2 lo hi fs i→All W' top' (fs.set i f')
 |[],i,_,_=>by cases i<;>exact trivial
 |_::_,0,⟨_,h3⟩,h5=>⟨⟨h1',hf⟩,All.off2A hk ht h3 h5⟩
 |f::_,i+1,⟨⟨h1,h2⟩,h3⟩,⟨h4,h5⟩=>⟨⟨Nat.le_trans h1 ht,f.mv (fun k h6 h7=>hk k zq11 zq11) h2⟩,All.off2 hk ht h1' hf i h3 h5⟩
def Fct.nil:Fct:=⟨0,0,fun _=>True,fun _ h=>h⟩
theorem All.set {W:World} {top:Nat} {f':Fct}:∀{fs:List Fct} (i:Nat),f'.hi≤top→f'.P W→All W top fs→All W top (fs.set i f')
 |[],i,_,_,_=>by cases i<;>exact trivial
 |_::_,0,h1,h2,⟨_,h3⟩=>⟨⟨h1,h2⟩,h3⟩
 |_::_,i+1,h1,h2,⟨h4,h3⟩=>⟨h4,All.set i h1 h2 h3⟩
theorem Env.nil_ {w0 W:World} {top:Nat} {fs:List Fct} (E:Env w0 W top fs):Env w0 W top (Fct.nil::fs):=⟨E.below,E.le,E.ge,⟨Nat.zero_le _,trivial⟩,E.all⟩
theorem Env.madeAt {w0 W W':World} {top:Nat} {fs:List Fct} (E:Env w0 W top fs) (i:Nat) {α:Type} {d:Kd α} {x:α} {cs:List Value} (M:d.M W' W.heap.size (Fr W W') x cs) (hb:Below W.heap.size W W'):∃n m,(top≤n∧n≤m)∧Env w0 W' m (fs.set i (Fct.made d w0.heap.size n m (fun _=>True) x cs)):=by
 obtain ⟨n,m,h1,h2⟩:=E.made_ M hb
 exact ⟨n,m,h1,h2.below,h2.le,h2.ge,All.set i h2.all.1.1 h2.all.1.2 h2.all.2⟩
theorem zqa {α:Type} {d:Kd α} {e:Nat} {W:World} {base:Nat} {p:Nat→Prop} {xs:List α} {v:Value} (h:(Own.srow e d).M W base p xs [v]):(Own.arow e d).M W base p xs [v]:=by
 obtain ⟨v',hv,hS⟩:=h
 injection hv with hv
 subst hv
 exact Own.arow_of_S hS
theorem S_made0 {α:Type} (d:Kd α) (e base:Nat) (w:World) (ok:Nat→Prop) (hb:base≤w.heap.size) (hok:ok w.heap.size):Kd.S d e (w.alloc (.cells #[] e)) base ok (.slice (some ⟨w.heap.size,0,none⟩) 0 0) []:=
 ⟨fun _=>0,fun k hk=>by simp [Value.ownBlock] at hk;rw [←hk];exact hok,[],World.ownsRow_made w #[] 0 hb zq26 zq52,Reps.none _ _⟩
section
variable {P:Program} {ops:Array Oper} {Q:Exit→Act→World→Prop} {G:Act→World→Prop} {N:Option Tmp} {o:Oper} {a:Act} {w0 W:World} {top:Nat} {fs:List Fct}
theorem zKa (E:Env w0 W top fs) (i:Nat) (hN:o.dst=N) (hw:Region.wanted o (yielded ops a.tmps)=true) (t e:TypeId) (hop:o.op= .buildSlice t 0 #[]) (hu:P.underlying t=some (.slice e)) (sz:Nat) (hs:(sizeOf e).run P W= .ok sz W) {α:Type} (d:Kd α)
  (h:∀g W',top≤g→Env w0 W' (g+1) (fs.set i (Fct.made (Own.srow e d) w0.heap.size g (g+1) (fun _=>True) [] [.slice (some ⟨g,0,none⟩) 0 0]))→G (a.put N (.slice (some ⟨g,0,none⟩) 0 0)) W'):Ev1 P o ops Q a W G:=by
 intro K hK
 subst hN
 rw [if_pos hw]
 have hz:(Array.range (0*sz)).map ((#[]:Array Value)[·%(#[]:Array Value).size]!)= #[]:=zq52
 have hle:¬0*sz>2^24:=zq52
 have h0:0*sz=0:=zq52
 have hr:Array.range 0= #[]:=rfl
 unfold Oper.wp execOp
 simp only [hop,Instr.buildSlice,Sem.run_bind,run_underlying hu,hs,Result.andThen_ok,List.map_toArray,List.map_nil,if_neg hle,h0,if_true,Instr.fill,Sem.run_pure,newRow,Sem.run_map,Functor.map,hr,Array.map_empty]
 refine hK.out _ _ (h W.heap.size (W.alloc (.cells #[] e)) E.le ?_)
 have E1:=E.call (zg (Below.refl W.heap.size W) (.cells #[] e))
 exact ⟨E1.below,by simp,Nat.le_succ_of_le E.below.size,All.set i (Nat.le_refl _) (show Fct.P _ _ from ⟨_,rfl,Kd.S_mono (S_made0 d e w0.heap.size W (fun k=>k=W.heap.size) E.below.size rfl) (fun k hk=>⟨trivial,by rw [hk];exact ⟨Nat.le_refl _,Nat.lt_succ_self _⟩⟩)⟩) (All.step (fun _ _=>rfl) (Nat.le_succ_of_le E.le) E1.all)⟩
theorem zW (E:Env w0 W top fs) (hN:o.dst=N) (hw:Region.wanted o (yielded ops a.tmps)=true) (s x:Operand) (t e:TypeId) (z:Value) (bytes:Nat)
  (ho:o.op= .call {callee:= .builtin .append,args:= #[s,x],argTypes:= #[t,t]}) {α:Type} (d:Kd α) (hE:d.E=[])
  (ht:P.underlying t=some (.slice e)) (hinfo:(P.info? e).map (fun i=>(i.zero,i.size,i.bytes))=some (some z,d.sz,bytes)) (hz:z.cells.size=d.sz) (hs0:0<d.sz) (hb0:0<bytes)
  (i:Nat) {g:Nat} {v:Value} (hf:fs[i]?=some (Fct.made (Own.srow e d) w0.heap.size g (g+1) (fun _=>True) [] [v])) {ys:List α} {A:Option Addr} {m c:Nat} (hR:d.C w0 A m ys) (hKM:∀x cs,d.K W x cs→d.M W w0.heap.size (fun _=>False) x cs)
  (hs:a.eval s=v) (hx:a.eval x= .slice A m c) (hl:m*bytes≤140737488355328) (hgt:g+1≤top) (hoff:Off2 g (g+1) fs i)
  (h:∀v1 w1 b t1,(b=g∨top≤b)∧b+1≤t1∧top≤t1→Env w0 w1 t1 (fs.set i (Fct.made (Own.srow e d) w0.heap.size b (b+1) (fun _=>True) ys [v1]))→G (a.put N v1) w1):Ev1 P o ops Q a W G:=by
 intro K hK
 subst hN
 obtain ⟨v',hv,hS⟩:=E.made i hf
 injection hv with hv
 subst hv
 have hown:∀k,v.ownBlock=some k→True∧Iv g (g+1) k:=hS.choose_spec.1
 have hC:=Kd.C_below hR E.below
 refine Kd.R_append_rows_step d (Rr:=d.K W) (w0:=w0) w0.heap.size hw s x t e z bytes ho ht hinfo hz hs0 hb0 v [] ys A m c (fun _=>True) (fun _=>False) hs hx (Kd.R_mono (Kd.S_R hS) (fun _ _=>trivial)) hC hKM (fun _ h=>h.elim) (fun _ _=>trivial) E.below E.below.size (by rw [List.length_nil,Nat.zero_add];exact hl) ?_
 intro v1 w1 hR1 hB hg hat
 rw [List.nil_append] at hR1
 have hM:=Own.srow_of_R hE hR1
 have fin:∀b,(b=g∨top≤b)→b+1≤w1.heap.size→(∀k,some k=v1.ownBlock→k=b)→K (a.put o.dst v1) w1:=fun b h1 h2 h3=>by
  refine hK.out _ _ (h v1 w1 b w1.heap.size ⟨h1,h2,Nat.le_trans E.le hg.size⟩ ⟨hB,Nat.le_refl _,hB.size,All.off2 (fun k hk hk2=>hg.block k (Nat.lt_of_lt_of_le hk E.le) (fun e=> ?_)) (Nat.le_trans E.le hg.size) (f':=Fct.made (Own.srow e d) w0.heap.size b (b+1) (fun _=>True) ys [v1]) h2 ?_ i E.all hoff⟩)
  ·have:=(hown k e.symm).2
   obtain ⟨q1,q2⟩:=this
   omega
  ·exact (Own.srow e d).M_mono (fun k hk=>⟨trivial,by rw [h3 k hk];exact ⟨Nat.le_refl _,Nat.lt_succ_self _⟩⟩) hM
 rcases hat with hat|⟨b,hb,hle⟩
 ·refine fin g (.inl rfl) (Nat.le_trans hgt (Nat.le_trans E.le hg.size)) (fun k hk=> ?_)
  rw [hat] at hk
  have:=(hown k hk.symm).2
  obtain ⟨q1,q2⟩:=this
  omega
 ·refine fin b (.inr (Nat.le_trans E.le hle)) (Kd.R_lt hR1 b hb) (fun k hk=> ?_)
  rw [hb] at hk
  injection hk
end
theorem Kpair {α β:Type} {a:Kd α} {b:Kd β} {w:World} {x:α} {y:β} {c0 c1:List Value} (ha:a.K w x c0) (hb:b.K w y c1):(Own.apair a b).K w (x,y) (c0++c1):=⟨c0,c1,rfl,ha,hb⟩
def Pick (fs:List Fct):List (Nat×Fct)→Prop
 |[]=>True
 |(i,f)::r=>fs[i]?=some f∧Pick fs r
theorem Env.pick {w0 W:World} {top:Nat} {fs:List Fct} (E:Env w0 W top fs):∀(r:List (Nat×Fct)),Pick fs r→Env w0 W top (r.map (·.2))
 |[],_=>⟨E.below,E.le,E.ge,trivial⟩
 |(i,f)::r,⟨h1,h2⟩=>⟨E.below,E.le,E.ge,All.get i E.all h1,(E.pick r h2).all⟩
theorem kDisk_comb {W:World} {base:Nat} {p q:Nat→Prop} {l0:List ByteArray} {l1:List S135} {a b:Value} (ha:(Own.srow 9 Kd.string).M W base p l0 [a]) (hb:(Own.srow 135 k135).M W base q l1 [b]) (hd:∀k,p k→¬q k):kDisk.M W base (fun k=>p k∨q k) (l0,l1) [a,b]:=comb ha hb hd
theorem kWork_of {W:World} {base:Nat} {p p3 p4 p5:Nat→Prop} {l0:List ByteArray} {l1:List S135} {l2:Int} {l3 l4 l5:List Int} {x0 x1 v3 v4 v5:Value} (h:kDisk.M W base p (l0,l1) [x0,x1]) (h3:(Own.srow 3 (Kd.int .i64)).M W base p3 l3 [v3]) (h4:(Own.srow 3 (Kd.int .i64)).M W base p4 l4 [v4]) (h5:(Own.srow 3 (Kd.int .i64)).M W base p5 l5 [v5]) (d0:∀k,p k→¬(p3 k∨p4 k∨p5 k)) (d1:∀k,p3 k→¬(p4 k∨p5 k)) (d2:∀k,p4 k→¬p5 k):kWork.M W base (fun k=>p k∨p3 k∨p4 k∨p5 k) (l0,l1,l2,l3,l4,l5) [x0,x1,.int .i64 l2,v3,v4,v5]:=by
 obtain ⟨c0,c1,okA,okB,e,ha,hb,hA,hB,hab⟩:=Own.apair_open h
 obtain ⟨v,rfl,hs⟩:=ha
 injection e with e1 e2
 subst e1
 subst e2
 have t3:=comb (zqa h3) (comb (zqa h4) (zqa h5) d2) d1
 have t2:(Own.apair (Kd.int .i64) (Own.apair (Own.arow 3 (Kd.int .i64)) (Own.apair (Own.arow 3 (Kd.int .i64)) (Own.arow 3 (Kd.int .i64))))).M W base (fun k=>p3 k∨p4 k∨p5 k) (l2,l3,l4,l5) [.int .i64 l2,v3,v4,v5]:=Own.apair_mk (okA:=fun _=>False) (Mint (n:=l2)) t3 (fun _ h=>h.elim) (fun _ h=>h) (fun _ h=>h.elim)
 have t1:=Own.apair_mk (ok:=fun k=>p k∨p3 k∨p4 k∨p5 k) (okA:=okB) (okB:=fun k=>p3 k∨p4 k∨p5 k) hb t2 (fun k h=>Or.inl (hB k h)) (fun k h=>Or.inr h) (fun k h1 h3=>d0 k (hB k h1) h3)
 exact Own.apair_mk (ok:=fun k=>p k∨p3 k∨p4 k∨p5 k) (okA:=okA) (okB:=fun k=>okB k∨p3 k∨p4 k∨p5 k) (show (Own.srow 9 Kd.string).M W base okA l0 _ from ⟨_,rfl,hs⟩) (Own.apair_mk (ok:=fun k=>okB k∨p3 k∨p4 k∨p5 k) (okA:=okB) (okB:=fun k=>p3 k∨p4 k∨p5 k) hb t2 (fun k h=>Or.inl h) (fun k h=>Or.inr h) (fun k h1 h3=>d0 k (hB k h1) h3)) (fun k h=>Or.inl (hA k h)) (fun k h=>h.elim (fun h=>Or.inl (hB k h)) Or.inr) (fun k h1 h3=>h3.elim (hab k h1) (d0 k (hA k h1)))
theorem kWork_of2 {W:World} {base:Nat} {p p3 p4 p5:Nat→Prop} {l0:List ByteArray} {l1:List S135} {l2:Int} {l3 l4 l5:List Int} {c:List Value} {v3 v4 v5:Value} (h:kDisk.M W base p (l0,l1) c) (h3:(Own.arow 3 (Kd.int .i64)).M W base p3 l3 [v3]) (h4:(Own.arow 3 (Kd.int .i64)).M W base p4 l4 [v4]) (h5:(Own.arow 3 (Kd.int .i64)).M W base p5 l5 [v5]) (d0:∀k,p k→¬(p3 k∨p4 k∨p5 k)) (d1:∀k,p3 k→¬(p4 k∨p5 k)) (d2:∀k,p4 k→¬p5 k):kWork.M W base (fun k=>p k∨p3 k∨p4 k∨p5 k) (l0,l1,l2,l3,l4,l5) (c++([.int .i64 l2]++([v3]++([v4]++[v5])))):=by
 obtain ⟨c0,c1,okA,okB,rfl,ha,hb,hA,hB,hab⟩:=Own.apair_open h
 have t3:=comb h3 (comb h4 h5 d2) d1
 have t2:(Own.apair (Kd.int .i64) (Own.apair (Own.arow 3 (Kd.int .i64)) (Own.apair (Own.arow 3 (Kd.int .i64)) (Own.arow 3 (Kd.int .i64))))).M W base (fun k=>p3 k∨p4 k∨p5 k) (l2,l3,l4,l5) ([.int .i64 l2]++([v3]++([v4]++[v5]))):=Own.apair_mk (okA:=fun _=>False) (Mint (n:=l2)) t3 (fun _ h=>h.elim) (fun _ h=>h) (fun _ h=>h.elim)
 rw [List.append_assoc]
 exact Own.apair_mk (ok:=fun k=>p k∨p3 k∨p4 k∨p5 k) (okA:=okA) (okB:=fun k=>okB k∨p3 k∨p4 k∨p5 k) ha (Own.apair_mk (ok:=fun k=>okB k∨p3 k∨p4 k∨p5 k) (okA:=okB) (okB:=fun k=>p3 k∨p4 k∨p5 k) hb t2 (fun k h=>Or.inl h) (fun k h=>Or.inr h) (fun k h1 h3=>d0 k (hB k h1) h3)) (fun k h=>Or.inl (hA k h)) (fun k h=>h.elim (fun h=>Or.inl (hB k h)) Or.inr) (fun k h1 h3=>h3.elim (hab k h1) (d0 k (hA k h1)))
theorem zU {P:Program} {ops:Array Oper} {Q:Exit→Act→World→Prop} {G:Act→World→Prop} {o:Oper} {a:Act} {W:World} {N:Nat} (_h:o.dst=some N) (h:Ev1 P o ops Q a W G):Ev1 P o ops Q a W G:=h
theorem zRa {w:World} {l0:List ByteArray} {l1:List S135} {a b:Value} (h0:(Own.srow 9 Kd.string).K w l0 [a]) (h1:(Own.srow 135 k135).K w l1 [b]):kDisk.K w (l0,l1) [a,b]:=Kpair h0 h1
def l03Copy_n_T1:Bool×List (List Nat×List Nat):=(true,[([],[]),([],[]),([1],[1]),([0,2],[0,2]),([],[]),([],[]),([5],[5]),([4,6,3],[4,6]),([3,7],[3,7]),([8,7,0,1,2,3,4,5,6,7,8],[8])])
def l03Copy_n_B1:List Nat:=[0,0,2,7,0,0,32,127,255,511]
theorem l03Copy_n_ok1_0:regT (opsOf Try.f65 1) l03Copy_n_T1 l03Copy_n_B1 [9] (.p 1 (.t 2 (.p 5 (.t 6 (.two 0 4 (.two 3 4 (.e 4 (.e 7 (.p 8 (.l 9 .d)))) (.e 3 (.e 7 (.p 8 (.l 9 .d))))) (.e 0 (.e 3 (.e 7 (.p 8 (.l 9 .d))))))))))=true:=zq15
theorem l03Copy_n (l0:List ByteArray) (l1:List S135) {cs:List Value} (w:World) (h:kDisk.K w (l0,l1) cs) (hl:l0.length≤2000000∧l1.length≤2000000):
  Calls Try.prog 65 #[.agg cs.toArray] w fun e w'=>∃ds:List Value,e= .returned (.agg ds.toArray)∧kDisk.M w' w.heap.size (Fr w w') (l0,l1) ds∧Below w.heap.size w w':=by
 obtain ⟨A0,c0,A1,c1,rfl,m0,r0,m1,r1⟩:=zna h
 have R0:=zz r0;have R1:=zz r1;have L0:=zz hl.1;have L1:=zz hl.2;clear h r0 r1 m0 m1 hl
 have O:=zz (Nat.le_refl w.heap.size)
 have E:=zz (Env.start w)
 go_enter Try.func65,Try.ntmps65
 go_upto_region 1 with (fail)
 replace O:=zz (And.intro E.out.le O.out)
 replace E:=zz (E.out.alloc [.slice A0 l0.length c0,.slice A1 l1.length c1] 32 (g:=w.heap.size) rfl)
 replace E:=zz (E.out.alloc [.slice none 0 0,.slice none 0 0] 32 (g:=(w.heap.size+1)) zq52)
 replace E:=zz E.out.nil_
 replace E:=zz E.out.nil_
 replace E:=zz E.out.drew
 refine zxa l03Copy_n_ok1_0 (S:=fun w'=>w'.heap[w.heap.size]?=some (.cells ([.slice A0 l0.length c0,.slice A1 l1.length c1]:List Value).toArray 32 (0,0))∧True) zq15 (fun _ _ _ _ h=>h) ⟨(E.out.box 3 rfl),trivial⟩ (fun hHeld=> ?_)
 generalize hq:World.drew _=w1_ at hHeld ⊢;replace E:=E.out.to hq;clear hq
 (refine zha (v:= ?_) (a':= ?_) rfl rfl (Or.inl ⟨zq44,zq27⟩) zq7 ?_)
 refine zI (a':= ?_) rfl rfl zq44 22 _ rfl w.heap.size 0 [] (.slice A0 l0.length c0) [.slice A1 l1.length c1] _ rfl (fun w' hs=>hs.1) zq13 (rfl) Try.underlying22 rfl zq7 ?_
 (refine zha (v:= ?_) (a':= ?_) rfl rfl (Or.inl ⟨zq44,zq27⟩) zq7 ?_)
 refine zI (a':= ?_) rfl rfl zq44 30 _ rfl w.heap.size 1 [.slice A0 l0.length c0] (.slice A1 l1.length c1) [] _ rfl (fun w' hs=>hs.1) zq13 (rfl) Try.underlying30 rfl zq7 ?_
 repeat' (first
  |(refine tre_four rfl rfl rfl rfl ?_ ?_ ?_ ?_)
  |(refine tre_three rfl rfl rfl ?_ ?_ ?_)
  |(refine zcb rfl rfl ?_ ?_)
  |(refine zwa rfl ?_)
  |((with_reducible refine zU (N:=3) rfl ?_);refine zKa (N:=some 3) E.out 0 rfl zq44 22 9 rfl Try.underlying22 1 zq15 Kd.string ?_;intro g0 W hg hE;have q:=And.intro hg O.out;clear O E hg;have O:=zz q;have E:=zz hE;clear q hE;refine ⟨⟨E.out.box 3 rfl,trivial⟩,fun hHeld=> ?_⟩;refine zy (a':= ?_) zq7 ?_)
  |((with_reducible refine zU (N:=6) rfl ?_);refine zW (N:=some 6) E.out rfl zq44 _ _ 22 9 (.string .empty) 16 rfl Kd.string rfl Try.underlying22 info9 rfl zq26 zq26 0 (g:=g0) rfl R0.out (fun _ _ h=>h) rfl rfl (zq95 L0.out) zq133 zq57 ?_;intro u W b0 t0 hg hE;have q:=And.intro hg O.out;clear O E hg;have O:=zz q;have E:=zz hE;clear q hE;obtain ⟨B0,e0,hv,-⟩:=E.out.mk_ 0 rfl;injection hv with hv;subst hv;refine ⟨⟨E.out.box 3 rfl,trivial⟩,fun hHeld=> ?_⟩;refine zy (a':= ?_) zq7 ?_)
  |((with_reducible refine zU (N:=7) rfl ?_);refine zKa (N:=some 7) E.out 1 rfl zq44 30 135 rfl Try.underlying30 2 zq15 k135 ?_;intro g1 W hg hE;have q:=And.intro hg O.out;clear O E hg;have O:=zz q;have E:=zz hE;clear q hE;refine ⟨⟨E.out.box 3 rfl,trivial⟩,fun hHeld=> ?_⟩;refine zy (a':= ?_) zq7 ?_)
  |((with_reducible refine zU (N:=10) rfl ?_);refine zW (N:=some 10) E.out rfl zq44 _ _ 30 135 (.agg #[.int .i64 0,.string .empty]) 24 rfl k135 rfl Try.underlying30 info135 rfl zq26 zq26 1 (g:=g1) rfl R1.out (fun _ _ h=>h) rfl rfl (zq95 L1.out) zq133 zq57 ?_;intro u W b1 t1 hg hE;have q:=And.intro hg O.out;clear O E hg;have O:=zz q;have E:=zz hE;clear q hE;obtain ⟨B1,e1,hv,-⟩:=E.out.mk_ 1 rfl;injection hv with hv;subst hv;refine ⟨⟨E.out.box 3 rfl,trivial⟩,fun hHeld=> ?_⟩;refine zy (a':= ?_) zq7 ?_))
 all_goals
  (refine zha (v:= ?_) (a':= ?_) rfl rfl (Or.inl ⟨zq44,zq27⟩) zq7 ?_)
  refine tre_l rfl (zL rfl zq44 32 _ _ rfl (w.heap.size+1) 0 [.slice B0 l0.length e0,.slice B1 l1.length e1] [] Z32 [] rfl rfl (E.out.box 2 rfl) rfl rfl rfl zq15 (onesC rfl (onesC rfl onesN)) (fun W hp hn=> ?_))
  replace E:=E.out.put2 2 hp hn zq108
  refine zia ?_
  clear hHeld hp hn
  go_wp2_with fail
  refine bodyPost_ret (zDa rfl _ _ (w.heap.size+1) 32 _ _ _ rfl (show _=some (Obj.cells ([.slice B0 l0.length e0,.slice B1 l1.length e1]:List Value).toArray 32 (0,0)) from E.out.box 2 rfl) Try.underlying32 rfl zq15) rfl ?_
  exact ⟨_,rfl,fresh (d:=kDisk) (kDisk_comb (E.out.made 0 rfl) (E.out.made 1 rfl) (fun k h1 h2=>by have o:=O.out;(try simp only [Iv,true_and,or_false,false_or] at h1 h2)<;>omega)) (Nat.le_refl _),E.out.below⟩
def l08Copy_n_T1:Bool×List (List Nat×List Nat):=(true,[([],[]),([0],[0]),([1],[1]),([],[]),([3],[3]),([],[]),([],[]),([6],[6]),([5,7,2],[5,7]),([],[]),([],[]),([10],[10]),([9,11,8],[9,11]),([],[]),([],[]),([14],[14]),([13,15,12],[13,15]),([2,4,8,12,16],[2,4,8,12,16]),([17,16,0,1,2,3,4,5,6,7,8,9,10,11,12,13,14,15,16,17],[17])])
def l08Copy_n_B1:List Nat:=[0,1,3,0,8,0,0,64,231,0,0,1024,4071,0,0,16384,65511,131071,262143]
theorem l08Copy_n_ok1_0:regT (opsOf Try.f47 1) l08Copy_n_T1 l08Copy_n_B1 [18] (.p 0 (.t 1 (.p 3 (.t 4 (.p 6 (.t 7 (.p 10 (.t 11 (.p 14 (.t 15 (.four 2 5 9 13 (.three 5 9 13 (.three 8 9 13 (.two 9 13 (.two 12 13 (.e 13 (.e 16 (.p 17 (.l 18 .d)))) (.e 12 (.e 16 (.p 17 (.l 18 .d))))) (.e 9 (.e 12 (.e 16 (.p 17 (.l 18 .d)))))) (.two 8 13 (.two 12 13 (.e 13 (.e 16 (.p 17 (.l 18 .d)))) (.e 12 (.e 16 (.p 17 (.l 18 .d))))) (.e 8 (.e 12 (.e 16 (.p 17 (.l 18 .d)))))) (.two 8 9 (.e 9 (.e 12 (.e 16 (.p 17 (.l 18 .d))))) (.e 8 (.e 12 (.e 16 (.p 17 (.l 18 .d))))))) (.two 5 13 (.two 8 13 (.two 12 13 (.e 13 (.e 16 (.p 17 (.l 18 .d)))) (.e 12 (.e 16 (.p 17 (.l 18 .d))))) (.e 8 (.e 12 (.e 16 (.p 17 (.l 18 .d)))))) (.e 5 (.e 8 (.e 12 (.e 16 (.p 17 (.l 18 .d))))))) (.two 5 9 (.two 8 9 (.e 9 (.e 12 (.e 16 (.p 17 (.l 18 .d))))) (.e 8 (.e 12 (.e 16 (.p 17 (.l 18 .d)))))) (.e 5 (.e 8 (.e 12 (.e 16 (.p 17 (.l 18 .d)))))))) (.three 2 9 13 (.three 8 9 13 (.two 9 13 (.two 12 13 (.e 13 (.e 16 (.p 17 (.l 18 .d)))) (.e 12 (.e 16 (.p 17 (.l 18 .d))))) (.e 9 (.e 12 (.e 16 (.p 17 (.l 18 .d)))))) (.two 8 13 (.two 12 13 (.e 13 (.e 16 (.p 17 (.l 18 .d)))) (.e 12 (.e 16 (.p 17 (.l 18 .d))))) (.e 8 (.e 12 (.e 16 (.p 17 (.l 18 .d)))))) (.two 8 9 (.e 9 (.e 12 (.e 16 (.p 17 (.l 18 .d))))) (.e 8 (.e 12 (.e 16 (.p 17 (.l 18 .d))))))) (.two 2 13 (.two 8 13 (.two 12 13 (.e 13 (.e 16 (.p 17 (.l 18 .d)))) (.e 12 (.e 16 (.p 17 (.l 18 .d))))) (.e 8 (.e 12 (.e 16 (.p 17 (.l 18 .d)))))) (.e 2 (.e 8 (.e 12 (.e 16 (.p 17 (.l 18 .d))))))) (.two 2 9 (.two 8 9 (.e 9 (.e 12 (.e 16 (.p 17 (.l 18 .d))))) (.e 8 (.e 12 (.e 16 (.p 17 (.l 18 .d)))))) (.e 2 (.e 8 (.e 12 (.e 16 (.p 17 (.l 18 .d)))))))) (.three 2 5 13 (.two 5 13 (.two 8 13 (.two 12 13 (.e 13 (.e 16 (.p 17 (.l 18 .d)))) (.e 12 (.e 16 (.p 17 (.l 18 .d))))) (.e 8 (.e 12 (.e 16 (.p 17 (.l 18 .d)))))) (.e 5 (.e 8 (.e 12 (.e 16 (.p 17 (.l 18 .d))))))) (.two 2 13 (.two 8 13 (.two 12 13 (.e 13 (.e 16 (.p 17 (.l 18 .d)))) (.e 12 (.e 16 (.p 17 (.l 18 .d))))) (.e 8 (.e 12 (.e 16 (.p 17 (.l 18 .d)))))) (.e 2 (.e 8 (.e 12 (.e 16 (.p 17 (.l 18 .d))))))) (.two 2 5 (.e 5 (.e 8 (.e 12 (.e 16 (.p 17 (.l 18 .d)))))) (.e 2 (.e 8 (.e 12 (.e 16 (.p 17 (.l 18 .d)))))))) (.three 2 5 9 (.two 5 9 (.two 8 9 (.e 9 (.e 12 (.e 16 (.p 17 (.l 18 .d))))) (.e 8 (.e 12 (.e 16 (.p 17 (.l 18 .d)))))) (.e 5 (.e 8 (.e 12 (.e 16 (.p 17 (.l 18 .d))))))) (.two 2 9 (.two 8 9 (.e 9 (.e 12 (.e 16 (.p 17 (.l 18 .d))))) (.e 8 (.e 12 (.e 16 (.p 17 (.l 18 .d)))))) (.e 2 (.e 8 (.e 12 (.e 16 (.p 17 (.l 18 .d))))))) (.two 2 5 (.e 5 (.e 8 (.e 12 (.e 16 (.p 17 (.l 18 .d)))))) (.e 2 (.e 8 (.e 12 (.e 16 (.p 17 (.l 18 .d)))))))))))))))))))=true:=zq15
theorem l08Copy_n (l0:List ByteArray) (l1:List S135) (l2:Int) (l3 l4 l5:List Int) {cs:List Value} (w:World) (h:kWork.K w (l0,l1,l2,l3,l4,l5) cs) (hl:(l0.length≤2000000∧l1.length≤2000000)∧l3.length≤2000000∧l4.length≤2000000∧l5.length≤2000000):
  Calls Try.prog 47 #[.agg cs.toArray] w fun e w'=>∃ds:List Value,e= .returned (.agg ds.toArray)∧kWork.M w' w.heap.size (Fr w w') (l0,l1,l2,l3,l4,l5) ds∧Below w.heap.size w w':=by
 obtain ⟨A0,c0,A1,c1,A3,c3,A4,c4,A5,c5,rfl,m0,r0,m1,r1,m3,r3,m4,r4,m5,r5⟩:=zUa h
 have KD:=zz (zRa (w:=w) ⟨_,_,rfl,m0,r0⟩ ⟨_,_,rfl,m1,r1⟩)
 have R3:=zz r3;have R4:=zz r4;have R5:=zz r5;have LD:=zz hl.1;have L3:=zz hl.2.1;have L4:=zz hl.2.2.1;have L5:=zz hl.2.2.2;clear h r0 r1 m0 m1 r3 m3 r4 m4 r5 m5 hl
 have O:=zz (Nat.le_refl w.heap.size)
 have E:=zz (Env.start w)
 go_enter Try.func47,Try.ntmps47
 go_upto_region 1 with (fail)
 replace O:=zz (And.intro E.out.le O.out)
 replace E:=zz (E.out.alloc [.slice A0 l0.length c0,.slice A1 l1.length c1,.int .i64 l2,.slice A3 l3.length c3,.slice A4 l4.length c4,.slice A5 l5.length c5] 34 (g:=w.heap.size) rfl)
 replace E:=zz (E.out.alloc Z34 34 (g:=(w.heap.size+1)) zq52)
 replace E:=zz E.out.nil_
 replace E:=zz E.out.nil_
 replace E:=zz E.out.nil_
 replace E:=zz E.out.nil_
 replace E:=zz E.out.drew
 refine zxa l08Copy_n_ok1_0 (S:=fun w'=>w'.heap[w.heap.size]?=some (.cells ([.slice A0 l0.length c0,.slice A1 l1.length c1,.int .i64 l2,.slice A3 l3.length c3,.slice A4 l4.length c4,.slice A5 l5.length c5]:List Value).toArray 34 (0,0))∧True) zq15 (fun _ _ _ _ h=>h) ⟨(E.out.box 5 rfl),trivial⟩ (fun hHeld=> ?_)
 generalize hq:World.drew _=w1_ at hHeld ⊢;replace E:=E.out.to hq;clear hq
 (refine zha (v:= ?_) (a':= ?_) rfl rfl (Or.inl ⟨zq44,zq27⟩) zq7 ?_)
 refine zS (a':= ?_) rfl rfl zq44 32 _ rfl w.heap.size 0 [] [.slice A0 l0.length c0,.slice A1 l1.length c1] [.int .i64 l2,.slice A3 l3.length c3,.slice A4 l4.length c4,.slice A5 l5.length c5] _ rfl (fun w' hs=>hs.1) zq13 (rfl) Try.underlying32 rfl zq15 zq7 ?_
 (refine zha (v:= ?_) (a':= ?_) rfl rfl (Or.inl ⟨zq44,zq27⟩) zq7 ?_)
 refine zI (a':= ?_) rfl rfl zq44 3 _ rfl w.heap.size 2 [.slice A0 l0.length c0,.slice A1 l1.length c1] (.int .i64 l2) [.slice A3 l3.length c3,.slice A4 l4.length c4,.slice A5 l5.length c5] _ rfl (fun w' hs=>hs.1) zq13 (rfl) Try.underlying3 rfl zq7 ?_
 (refine zha (v:= ?_) (a':= ?_) rfl rfl (Or.inl ⟨zq44,zq27⟩) zq7 ?_)
 refine zI (a':= ?_) rfl rfl zq44 26 _ rfl w.heap.size 3 [.slice A0 l0.length c0,.slice A1 l1.length c1,.int .i64 l2] (.slice A3 l3.length c3) [.slice A4 l4.length c4,.slice A5 l5.length c5] _ rfl (fun w' hs=>hs.1) zq13 (rfl) Try.underlying26 rfl zq7 ?_
 (refine zha (v:= ?_) (a':= ?_) rfl rfl (Or.inl ⟨zq44,zq27⟩) zq7 ?_)
 refine zI (a':= ?_) rfl rfl zq44 26 _ rfl w.heap.size 4 [.slice A0 l0.length c0,.slice A1 l1.length c1,.int .i64 l2,.slice A3 l3.length c3] (.slice A4 l4.length c4) [.slice A5 l5.length c5] _ rfl (fun w' hs=>hs.1) zq13 (rfl) Try.underlying26 rfl zq7 ?_
 (refine zha (v:= ?_) (a':= ?_) rfl rfl (Or.inl ⟨zq44,zq27⟩) zq7 ?_)
 refine zI (a':= ?_) rfl rfl zq44 26 _ rfl w.heap.size 5 [.slice A0 l0.length c0,.slice A1 l1.length c1,.int .i64 l2,.slice A3 l3.length c3,.slice A4 l4.length c4] (.slice A5 l5.length c5) [] _ rfl (fun w' hs=>hs.1) zq13 (rfl) Try.underlying26 rfl zq7 ?_
 repeat' (first
  |(refine tre_four rfl rfl rfl rfl ?_ ?_ ?_ ?_)
  |(refine tre_three rfl rfl rfl ?_ ?_ ?_)
  |(refine zcb rfl rfl ?_ ?_)
  |(refine zwa rfl ?_)
  |((with_reducible refine zU (N:=8) rfl ?_);refine zKa (N:=some 8) E.out 0 rfl zq44 26 3 rfl Try.underlying26 1 zq15 (Kd.int .i64) ?_;intro g0 W hg hE;have q:=And.intro hg O.out;clear O E hg;have O:=zz q;have E:=zz hE;clear q hE;refine ⟨⟨E.out.box 5 rfl,trivial⟩,fun hHeld=> ?_⟩;refine zy (a':= ?_) zq7 ?_)
  |((with_reducible refine zU (N:=11) rfl ?_);refine zW (N:=some 11) E.out rfl zq44 _ _ 26 3 (.int .i64 0) 8 rfl (Kd.int .i64) rfl Try.underlying26 info3 rfl zq26 zq26 0 (g:=g0) rfl R3.out (fun _ _ h=>h) rfl rfl (zq95 L3.out) zq133 zq57 ?_;intro u W b0 t0 hg hE;have q:=And.intro hg O.out;clear O E hg;have O:=zz q;have E:=zz hE;clear q hE;obtain ⟨B0,e0,hv,-⟩:=E.out.mk_ 0 rfl;injection hv with hv;subst hv;refine ⟨⟨E.out.box 5 rfl,trivial⟩,fun hHeld=> ?_⟩;refine zy (a':= ?_) zq7 ?_)
  |((with_reducible refine zU (N:=12) rfl ?_);refine zKa (N:=some 12) E.out 1 rfl zq44 26 3 rfl Try.underlying26 1 zq15 (Kd.int .i64) ?_;intro g1 W hg hE;have q:=And.intro hg O.out;clear O E hg;have O:=zz q;have E:=zz hE;clear q hE;refine ⟨⟨E.out.box 5 rfl,trivial⟩,fun hHeld=> ?_⟩;refine zy (a':= ?_) zq7 ?_)
  |((with_reducible refine zU (N:=15) rfl ?_);refine zW (N:=some 15) E.out rfl zq44 _ _ 26 3 (.int .i64 0) 8 rfl (Kd.int .i64) rfl Try.underlying26 info3 rfl zq26 zq26 1 (g:=g1) rfl R4.out (fun _ _ h=>h) rfl rfl (zq95 L4.out) zq133 zq57 ?_;intro u W b1 t1 hg hE;have q:=And.intro hg O.out;clear O E hg;have O:=zz q;have E:=zz hE;clear q hE;obtain ⟨B1,e1,hv,-⟩:=E.out.mk_ 1 rfl;injection hv with hv;subst hv;refine ⟨⟨E.out.box 5 rfl,trivial⟩,fun hHeld=> ?_⟩;refine zy (a':= ?_) zq7 ?_)
  |((with_reducible refine zU (N:=16) rfl ?_);refine zKa (N:=some 16) E.out 2 rfl zq44 26 3 rfl Try.underlying26 1 zq15 (Kd.int .i64) ?_;intro g2 W hg hE;have q:=And.intro hg O.out;clear O E hg;have O:=zz q;have E:=zz hE;clear q hE;refine ⟨⟨E.out.box 5 rfl,trivial⟩,fun hHeld=> ?_⟩;refine zy (a':= ?_) zq7 ?_)
  |((with_reducible refine zU (N:=19) rfl ?_);refine zW (N:=some 19) E.out rfl zq44 _ _ 26 3 (.int .i64 0) 8 rfl (Kd.int .i64) rfl Try.underlying26 info3 rfl zq26 zq26 2 (g:=g2) rfl R5.out (fun _ _ h=>h) rfl rfl (zq95 L5.out) zq133 zq57 ?_;intro u W b2 t2 hg hE;have q:=And.intro hg O.out;clear O E hg;have O:=zz q;have E:=zz hE;clear q hE;obtain ⟨B2,e2,hv,-⟩:=E.out.mk_ 2 rfl;injection hv with hv;subst hv;refine ⟨⟨E.out.box 5 rfl,trivial⟩,fun hHeld=> ?_⟩;refine zy (a':= ?_) zq7 ?_)
  |((with_reducible refine zU (N:=5) rfl ?_);refine zH (N:=some 5) rfl Try.func65 zq15 rfl #[.agg #[.slice A0 l0.length c0,.slice A1 l1.length c1]] zq44 rfl zq31 ?_;with_reducible refine (l03Copy_n l0 l1 _ (E.out.K KD.out) LD.out).mono ?_;rintro e W ⟨d,rfl,M,hb⟩;obtain ⟨nd,md,hg,hE⟩:=E.out.madeAt 3 M hb;have q:=And.intro hg O.out;clear O E hg M hb;have O:=zz q;have E:=zz hE;clear q hE;obtain ⟨D0,f0,D1,f1,rfl,-⟩:=zna (E.out.mk_ 3 rfl);refine ⟨_,rfl,⟨E.out.box 5 rfl,trivial⟩,fun hHeld=> ?_⟩;refine zy (a':= ?_) zq7 ?_))
 all_goals
  (refine zha (v:= ?_) (a':= ?_) rfl rfl (Or.inl ⟨zq44,zq27⟩) zq7 ?_)
  refine tre_l rfl (zL rfl zq44 34 _ _ rfl (w.heap.size+1) 0 [.slice D0 l0.length f0,.slice D1 l1.length f1,.int .i64 l2,.slice B0 l3.length e0,.slice B1 l4.length e1,.slice B2 l5.length e2] [] Z34 [] rfl rfl (E.out.box 4 rfl) rfl rfl rfl zq15 (onesC rfl (onesC rfl (onesC rfl (onesC rfl (onesC rfl (onesC rfl onesN)))))) (fun W hp hn=> ?_))
  replace E:=E.out.put2 4 hp hn zq108
  refine zia ?_
  clear hHeld hp hn
  go_wp2_with fail
  refine bodyPost_ret (zDa rfl _ _ (w.heap.size+1) 34 _ _ _ rfl (show _=some (Obj.cells ([.slice D0 l0.length f0,.slice D1 l1.length f1,.int .i64 l2,.slice B0 l3.length e0,.slice B1 l4.length e1,.slice B2 l5.length e2]:List Value).toArray 34 (0,0)) from E.out.box 4 rfl) Try.underlying34 rfl zq15) rfl ?_
  exact ⟨_,rfl,fresh (d:=kWork) (kWork_of (E.out.made 3 rfl) (E.out.made 0 rfl) (E.out.made 1 rfl) (E.out.made 2 rfl) (fun k h1 h2=>by have o:=O.out;(try simp only [Iv,true_and,or_false,false_or] at h1 h2)<;>omega) (fun k h1 h2=>by have o:=O.out;(try simp only [Iv,true_and,or_false,false_or] at h1 h2)<;>omega) (fun k h1 h2=>by have o:=O.out;(try simp only [Iv,true_and,or_false,false_or] at h1 h2)<;>omega)) (Nat.le_refl _),E.out.below⟩
end Go.Proofs.Ytonhdiemjgdcnaa.PFnExactGivePage
namespace Go.Proofs.Ytonhdiemjgdcnaa.PFnExactGivePage
open Go.RowKit Go.Proofs.YtonhdiemjgdcnaaW.PrintWords Go.Proofs.YtonhdiemjgdcnaaW.PrintLast Go.Proofs.YtonhdiemjgdcnaaW.PrintMore
attribute [local go_sem] zO zP zY zX zK zJ zQ zR
theorem kDiskL_lit {w:World} {l0:List ByteArray} {l1:List S140} {a b:Value} (h0:(Own.srow 9 Kd.string).K w l0 [a]) (h1:(Own.srow 140 k140).K w l1 [b]):kDiskL.K w (l0,l1) [a,b]:=Kpair h0 h1
theorem made_of_R {α:Type} {d:Kd α} (hE:d.E=[]) {e:Nat} {w w':World} {v:Value} {xs:List α} {ok:Nat→Prop} (h:d.R e w' w.heap.size ok v xs):(Own.srow e d).M w' w.heap.size (Fr w w') xs [v]:=
 (Own.srow e d).M_mono (fun k hk=>⟨Kd.R_base h k hk.symm,Kd.R_lt h k hk.symm⟩) (Own.srow_of_R hE h)
theorem cloneDisk_c (z:(List ByteArray×List S135)) {cs:List Value} (w:World) (h:kDisk.K w z cs) (hl:z.1.length≤2000000∧z.2.length≤2000000):
  Calls Try.prog 69 #[.agg cs.toArray] w fun e w'=>∃ds:List Value,e= .returned (.agg ds.toArray)∧kDisk.M w' w.heap.size (Fr w w') z ds∧Below w.heap.size w w':=by
 obtain ⟨l0,l1⟩:=z
 obtain ⟨A0,c0,A1,c1,rfl,m0,r0,m1,r1⟩:=zna h
 refine (impl_cloneDisk.calls A0 c0 l0 A1 c1 l1 l0 l1 w r0 m0 r1 m1 (by
  have h1:l0.length≤2000000:=hl.1
  have h2:l1.length≤2000000:=hl.2
  unfold impl_cloneDisk.f slices_Clone_string_string.f impl_Put.f
  rw [if_pos zq11,if_pos zq11]
  rfl)).mono ?_
 rintro e w' ⟨v0,v1,rfl,R0,R1,hb⟩
 have T0:=Own.R_tightB rfl R0
 have T1:=Own.R_tightB rfl R1
 exact ⟨[v0,v1],rfl,kDisk_mkM T0.1 T1.1 T0.2.1 T1.2.1 (Own.types_ne T0.2.2 T1.2.2 zq26),hb⟩
theorem cloneInts_c (z:List Int) {v:Value} (w:World) (h:(Own.arow 3 (Kd.int .i64)).K w z [v]) (hl:z.length≤2000000):
  Calls Try.prog 95 #[v] w fun e w'=>∃u:Value,e= .returned u∧(Own.srow 3 (Kd.int .i64)).M w' w.heap.size (Fr w w') z [u]∧Below w.heap.size w w':=by
 obtain ⟨A,c,hv,m,r⟩:=h
 injection hv with hv
 subst hv
 refine (slices_Clone_int_int.calls A c z z w r m (by unfold slices_Clone_int_int.f;rw [if_pos zq11])).mono ?_
 rintro e w' ⟨u,rfl,R,hb⟩
 exact ⟨u,rfl,made_of_R rfl R,hb⟩
def cloneWork_c_T1:Bool×List (List Nat×List Nat):=(true,[([],[]),([0],[0]),([1],[1]),([],[]),([3],[3]),([],[]),([5],[5]),([6,2],[6]),([],[]),([8],[8]),([9,7],[9]),([],[]),([11],[11]),([12,10],[12]),([2,4,7,10,13],[2,4,7,10,13]),([14,13,0,1,2,3,4,5,6,7,8,9,10,11,12,13,14],[14])])
def cloneWork_c_B1:List Nat:=[0,1,3,0,8,0,32,103,0,256,999,0,2048,8167,16383,32767]
theorem cloneWork_c_ok1_0:regT (opsOf Try.f49 1) cloneWork_c_T1 cloneWork_c_B1 [] (.p 0 (.t 1 (.p 3 (.t 4 (.p 5 (.t 6 (.p 8 (.t 9 (.p 11 (.t 12 (.e 2 (.e 7 (.e 10 (.e 13 (.p 14 (.e 15 .d))))))))))))))))=true:=zq15
theorem cloneWork_c (z:(List ByteArray×List S135×Int×List Int×List Int×List Int)) {cs:List Value} (w:World) (h:kWork.K w z cs) (hl:((z.1).length≤2000000∧(z.2.1).length≤2000000)∧(z.2.2.2.1).length≤2000000∧(z.2.2.2.2.1).length≤2000000∧(z.2.2.2.2.2).length≤2000000):
  Calls Try.prog 49 #[.agg cs.toArray] w fun e w'=>∃ds:List Value,e= .returned (.agg ds.toArray)∧kWork.M w' w.heap.size (Fr w w') z ds∧Below w.heap.size w w':=by
 have hwp:=h
 obtain ⟨cp0,_,rfl,hp0,cp1,_,rfl,hp1,cp2,_,rfl,hp2,cp3,_,rfl,hp3,cp4,cp5,rfl,hp4,hp5⟩:=h
 have gp0:=hp0;obtain ⟨A_,k_,rfl,-,-⟩:=hp0;obtain ⟨vp0,hv⟩:∃v,v=Value.slice A_ (z.1).length k_:=⟨_,rfl⟩;rw [←hv] at gp0 hwp ⊢;clear hv
 have gp1:=hp1;obtain ⟨A_,k_,rfl,-,-⟩:=hp1;obtain ⟨vp1,hv⟩:∃v,v=Value.slice A_ (z.2.1).length k_:=⟨_,rfl⟩;rw [←hv] at gp1 hwp ⊢;clear hv
 obtain rfl:cp2=[.int .i64 z.2.2.1]:=hp2
 have gp3:=hp3;obtain ⟨A_,k_,rfl,-,-⟩:=hp3;obtain ⟨vp3,hv⟩:∃v,v=Value.slice A_ (z.2.2.2.1).length k_:=⟨_,rfl⟩;rw [←hv] at gp3 hwp ⊢;clear hv
 have gp4:=hp4;obtain ⟨A_,k_,rfl,-,-⟩:=hp4;obtain ⟨vp4,hv⟩:∃v,v=Value.slice A_ (z.2.2.2.2.1).length k_:=⟨_,rfl⟩;rw [←hv] at gp4 hwp ⊢;clear hv
 have gp5:=hp5;obtain ⟨A_,k_,rfl,-,-⟩:=hp5;obtain ⟨vp5,hv⟩:∃v,v=Value.slice A_ (z.2.2.2.2.2).length k_:=⟨_,rfl⟩;rw [←hv] at gp5 hwp ⊢;clear hv
 obtain ⟨ep,he⟩:∃cs,cs=[vp0]++([vp1]++([.int .i64 z.2.2.1]++([vp3]++([vp4]++([vp5]))))):=⟨_,rfl⟩;rw [←he] at hwp ⊢;have Ep:=zz he;have Wp:=zz hwp;have Np:=zz (show ep.length=6 from Kd.K_len _ hwp);clear he hwp
 have Kp0:=zz gp0;clear gp0
 have Kp1:=zz gp1;clear gp1
 have Kp3:=zz gp3;clear gp3
 have Kp4:=zz gp4;clear gp4
 have Kp5:=zz gp5;clear gp5
 have F0:=zz hl.1;have F3:=zz hl.2.1;have F4:=zz hl.2.2.1;have F5:=zz hl.2.2.2;clear hl
 have O:=zz (Nat.le_refl w.heap.size)
 have E:=zz (Env.start w)
 go_enter Try.func49,Try.ntmps49
 go_upto_region 1 with (fail)
 replace O:=zz (And.intro E.out.le O.out)
 replace E:=zz (E.out.alloc ep 34 (g:=w.heap.size) rfl)
 replace E:=zz (E.out.alloc Z34 34 (g:=(w.heap.size+1)) zq52)
 replace E:=zz E.out.drew
 refine zxa cloneWork_c_ok1_0 (S:=fun w'=>w'.heap[w.heap.size]?=some (.cells (ep:List Value).toArray 34 (0,0))∧True) zq15 (fun _ _ _ _ h=>h) ⟨(E.out.box 1 rfl),trivial⟩ (fun hHeld=> ?_)
 generalize hq:World.drew _=w1_ at hHeld ⊢;replace E:=E.out.to hq;clear hq
 (refine zha (v:= ?_) (a':= ?_) rfl rfl (Or.inl ⟨zq44,zq27⟩) zq7 ?_)
 refine zS (a':= ?_) rfl rfl zq44 32 _ rfl w.heap.size 0 [] [vp0,vp1] ([.int .i64 z.2.2.1]++([vp3]++([vp4]++[vp5]))) _ rfl (fun w' hs=>hs.1) zq48 (rfl) Try.underlying32 rfl zq15 zq7 ?_
 (refine zha (v:= ?_) (a':= ?_) rfl rfl (Or.inl ⟨zq44,zq27⟩) zq7 ?_)
 refine zI (a':= ?_) rfl rfl zq44 3 _ rfl w.heap.size 2 ([vp0]++[vp1]) (.int .i64 z.2.2.1) ([vp3]++([vp4]++[vp5])) _ rfl (fun w' hs=>hs.1) zq48 (rfl) Try.underlying3 rfl zq7 ?_
 (refine zha (v:= ?_) (a':= ?_) rfl rfl (Or.inl ⟨zq44,zq27⟩) zq7 ?_)
 refine zI (a':= ?_) rfl rfl zq44 26 _ rfl w.heap.size 3 ([vp0]++([vp1]++[.int .i64 z.2.2.1])) (vp3) ([vp4]++[vp5]) _ rfl (fun w' hs=>hs.1) zq48 (rfl) Try.underlying26 rfl zq7 ?_
 (refine zha (v:= ?_) (a':= ?_) rfl rfl (Or.inl ⟨zq44,zq27⟩) zq7 ?_)
 refine zI (a':= ?_) rfl rfl zq44 26 _ rfl w.heap.size 4 ([vp0]++([vp1]++([.int .i64 z.2.2.1]++[vp3]))) (vp4) [vp5] _ rfl (fun w' hs=>hs.1) zq48 (rfl) Try.underlying26 rfl zq7 ?_
 (refine zha (v:= ?_) (a':= ?_) rfl rfl (Or.inl ⟨zq44,zq27⟩) zq7 ?_)
 refine zI (a':= ?_) rfl rfl zq44 26 _ rfl w.heap.size 5 ([vp0]++([vp1]++([.int .i64 z.2.2.1]++([vp3]++[vp4])))) (vp5) [] _ rfl (fun w' hs=>hs.1) zq48 (rfl) Try.underlying26 rfl zq7 ?_
 refine zwa rfl (zH rfl Try.func69 zq15 rfl #[.agg [vp0,vp1].toArray] zq44 rfl zq31 ?_)
 with_reducible refine (cloneDisk_c (z.1,z.2.1) _ (zRa (E.out.K Kp0.out) (E.out.K Kp1.out)) F0.out).mono ?_
 rintro e w7_ ⟨d8_,rfl,Md8_,hb⟩
 have q:=E.out.made4 O.out 2 rfl Md8_ hb;clear O E Md8_ hb;obtain ⟨n9_,m10_,Ld8_,Od8_,O,E⟩:=q
 refine ⟨_,rfl,⟨(E.out.box 2 rfl),trivial⟩,(fun hHeld=> ?_)⟩
 refine zy (a':= ?_) zq7 ?_
 refine zwa rfl (zH rfl Try.func95 zq15 rfl #[vp3] zq44 rfl zq31 ?_)
 with_reducible refine (cloneInts_c z.2.2.2.1 _ (E.out.K Kp3.out) F3.out).mono ?_
 rintro e w11_ ⟨d12_,rfl,Md12_,hb⟩
 have q:=E.out.made4 O.out 1 rfl Md12_ hb;clear O E Md12_ hb;obtain ⟨n13_,m14_,Ld12_,Od12_,O,E⟩:=q
 obtain ⟨B15_,e16_,hv,-⟩:=E.out.mk_ 0 rfl;injection hv with hv;subst hv
 refine ⟨_,rfl,⟨(E.out.box 3 rfl),trivial⟩,(fun hHeld=> ?_)⟩
 refine zy (a':= ?_) zq7 ?_
 refine zwa rfl (zH rfl Try.func95 zq15 rfl #[vp4] zq44 rfl zq31 ?_)
 with_reducible refine (cloneInts_c z.2.2.2.2.1 _ (E.out.K Kp4.out) F4.out).mono ?_
 rintro e w17_ ⟨d18_,rfl,Md18_,hb⟩
 have q:=E.out.made4 O.out 1 rfl Md18_ hb;clear O E Md18_ hb;obtain ⟨n19_,m20_,Ld18_,Od18_,O,E⟩:=q
 obtain ⟨B21_,e22_,hv,-⟩:=E.out.mk_ 0 rfl;injection hv with hv;subst hv
 refine ⟨_,rfl,⟨(E.out.box 4 rfl),trivial⟩,(fun hHeld=> ?_)⟩
 refine zy (a':= ?_) zq7 ?_
 refine zwa rfl (zH rfl Try.func95 zq15 rfl #[vp5] zq44 rfl zq31 ?_)
 with_reducible refine (cloneInts_c z.2.2.2.2.2 _ (E.out.K Kp5.out) F5.out).mono ?_
 rintro e w23_ ⟨d24_,rfl,Md24_,hb⟩
 have q:=E.out.made4 O.out 1 rfl Md24_ hb;clear O E Md24_ hb;obtain ⟨n25_,m26_,Ld24_,Od24_,O,E⟩:=q
 obtain ⟨B27_,e28_,hv,-⟩:=E.out.mk_ 0 rfl;injection hv with hv;subst hv
 refine ⟨_,rfl,⟨(E.out.box 5 rfl),trivial⟩,(fun hHeld=> ?_)⟩
 refine zy (a':= ?_) zq7 ?_
 obtain ⟨c29_,Ec29_,Lc29_,Oc29_⟩:=lump_ (d8_++([.int .i64 z.2.2.1]++([.slice B15_ z.2.2.2.1.length e16_]++([.slice B21_ z.2.2.2.2.1.length e22_]++[.slice B27_ z.2.2.2.2.2.length e28_])))) 6 (zq105 Ld8_.out) (zva Od8_.out (zva (ones1 rfl) (zva (ones1 rfl) (zva (ones1 rfl) (ones1 rfl)))))
 refine zha (v:= .agg c29_.toArray) (a':= ?_) rfl rfl (Or.inl ⟨zq44,run_build 34 _ rfl Z34 (fun w=>by kernel_rfl) _ Try.underlying34 #[(0,2),(2,1),(3,1),(4,1),(5,1)] (fun w=>by kernel_rfl) [(0,.agg d8_.toArray),(1,.int .i64 z.2.2.1),(2,.slice B15_ z.2.2.2.1.length e16_),(3,.slice B21_ z.2.2.2.2.1.length e22_),(4,.slice B27_ z.2.2.2.2.2.length e28_)] (by first|rfl|(simp only [List.map_toArray,List.map_cons,List.map_nil];rfl)) c29_ (by rw [Ec29_.out];refine fill_seg (new:=d8_) (pre:=[]) (mid:=[.slice none 0 0,.slice none 0 0]) (post:=[.int .i64 0,.slice none 0 0,.slice none 0 0,.slice none 0 0]) rfl zq13 (by show some (0,2)=some (_,_);rw [show (d8_:List Value).length=2 from Ld8_.out];first|done|rfl) (zq99 Ld8_.out) ?_;refine fill_seg (new:=[.int .i64 z.2.2.1]) (pre:=d8_) (mid:=[.int .i64 0]) (post:=[.slice none 0 0,.slice none 0 0,.slice none 0 0]) rfl zq13 (by show some (2,1)=some (_,_);rw [show (d8_:List Value).length=2 from Ld8_.out];first|done|rfl) (rfl) ?_;refine fill_seg (new:=[.slice B15_ z.2.2.2.1.length e16_]) (pre:=(d8_++[.int .i64 z.2.2.1])) (mid:=[.slice none 0 0]) (post:=[.slice none 0 0,.slice none 0 0]) rfl zq13 (by show some (3,1)=some (_,_);rw [show ((d8_++[.int .i64 z.2.2.1]):List Value).length=3 from by simp only [List.length_append,List.length_cons,List.length_nil,Ld8_.out]];first|done|rfl) (rfl) ?_;refine fill_seg (new:=[.slice B21_ z.2.2.2.2.1.length e22_]) (pre:=(d8_++([.int .i64 z.2.2.1]++[.slice B15_ z.2.2.2.1.length e16_]))) (mid:=[.slice none 0 0]) (post:=[.slice none 0 0]) rfl zq13 (by show some (4,1)=some (_,_);rw [show ((d8_++([.int .i64 z.2.2.1]++[.slice B15_ z.2.2.2.1.length e16_])):List Value).length=4 from by simp only [List.length_append,List.length_cons,List.length_nil,Ld8_.out]];first|done|rfl) (rfl) ?_;refine fill_seg (new:=[.slice B27_ z.2.2.2.2.2.length e28_]) (pre:=(d8_++([.int .i64 z.2.2.1]++([.slice B15_ z.2.2.2.1.length e16_]++[.slice B21_ z.2.2.2.2.1.length e22_])))) (mid:=[.slice none 0 0]) (post:=[]) rfl zq13 (by show some (5,1)=some (_,_);rw [show ((d8_++([.int .i64 z.2.2.1]++([.slice B15_ z.2.2.2.1.length e16_]++[.slice B21_ z.2.2.2.2.1.length e22_]))):List Value).length=5 from by simp only [List.length_append,List.length_cons,List.length_nil,Ld8_.out]];first|done|rfl) (rfl) ?_;first|rfl|simp only [Instr.fill,aA,aN,aL])⟩) ?_ ?_;rotate_left;(· show Act.put _ (some _) _=_;simp only [Act.put,s_A,s_0,s_1,zfa];try rfl)
 refine zwa rfl (zL rfl zq44 34 _ _ rfl (w.heap.size+1) 0 c29_ [] Z34 [] rfl rfl (E.out.box 4 rfl) zq13 (rfl) (zq99 Lc29_.out) (zq43 Lc29_.out) Oc29_.out (fun W30_ hp hn=> ?_))
 replace E:=E.out.put2 4 hp hn zq19;clear hp hn
 refine ⟨⟨(E.out.box 5 rfl),trivial⟩,(fun hHeld=> ?_)⟩
 refine zia ?_
 clear hHeld
 go_wp2_with fail
 have BX:=zz (show _=some (Obj.cells (c29_:List Value).toArray 34 (0,0)) from by first|exact (E.out.box 4 rfl)|simpa only [aA,aN,aL] using (E.out.box 4 rfl))
 refine bodyPost_ret (zDa rfl _ _ (w.heap.size+1) 34 _ _ _ rfl BX.out Try.underlying34 rfl (by rw [List.size_toArray,show (c29_:List Value).length=6 from Lc29_.out];kernel_rfl)) rfl ?_
 exact ⟨_,rfl,(zq55 Ec29_.out),E.out.below⟩
theorem eqInts_c (k:Nat) (z:List Int) {v0:Value} {v1:Value} (w:World) (h0:(Own.arow 3 (Kd.int .i64)).K w z [v0]) (h1:(Own.arow 3 (Kd.int .i64)).K w z [v1]) (hf:laws_eqIntS.f k z z=some true):
  Calls Try.prog 50 #[v0,v1] w fun e w'=>e= .returned (.bool true)∧Below w.heap.size w w':=by
 obtain ⟨A0,c0,hv,m0,r0⟩:=h0
 injection hv with hv
 subst hv
 obtain ⟨A1,c1,hv,m1,r1⟩:=h1
 injection hv with hv
 subst hv
 refine (laws_eqIntS.calls k A0 c0 z A1 c1 z true w r0 m0 r1 m1 hf).mono ?_
 rintro e w' ⟨he,hb⟩
 exact ⟨he,by first|exact hb|exact hb.below⟩
theorem heldInts_c (k:Nat) (z:List Int) (a r:Int) {v0:Value} (w:World) (h0:(Own.arow 3 (Kd.int .i64)).K w z [v0]) (hf:laws_heldIntS.f k z a=some r):
  Calls Try.prog 53 #[v0,.int .i64 a] w fun e w'=>e= .returned (.int .i64 r)∧Below w.heap.size w w':=by
 obtain ⟨A0,c0,hv,m0,r0⟩:=h0
 injection hv with hv
 subst hv
 refine (laws_heldIntS.calls k A0 c0 z a r w r0 m0 hf).mono ?_
 rintro e w' ⟨he,hb⟩
 exact ⟨he,by first|exact hb|exact hb.below⟩
theorem toInts_c (k:Nat) (z:List Int) (r:List Int) {v0:Value} (w:World) (h0:(Own.arow 3 (Kd.int .i64)).K w z [v0]) (hf:laws_toIntS.f k z=some r):
  Calls Try.prog 48 #[v0] w fun e w'=>∃u:Value,e= .returned u∧(Own.srow 3 (Kd.int .i64)).M w' w.heap.size (Fr w w') r [u]∧Below w.heap.size w w':=by
 obtain ⟨A0,c0,hv,m0,r0⟩:=h0
 injection hv with hv
 subst hv
 refine (laws_toIntS.calls k A0 c0 z r w r0 m0 hf).mono ?_
 rintro e w' ⟨u,rfl,R,hb⟩
 exact ⟨u,rfl,made_of_R rfl R,hb⟩
theorem toDisk_c (k:Nat) (a:(List ByteArray×List S140)) (z:(List ByteArray×List S135)) {cs:List Value} (w:World) (h:kDiskL.K w a cs) (hf:laws_toDisk.f k a.1 a.2=some (z.1,z.2)):
 Calls Try.prog 24 #[.agg cs.toArray] w fun e w'=>∃ds:List Value,e= .returned (.agg ds.toArray)∧kDisk.M w' w.heap.size (Fr w w') z ds∧Below w.heap.size w w':=toDisk_o k a.1 a.2 z.1 z.2 w h hf
def eqDisk_c_f (k:Nat) (z0:(List ByteArray×List S135)) (z1:(List ByteArray×List S135)):Option Bool:=laws_eqDisk.f k z0.1 z0.2 z1.1 z1.2
theorem eqDisk_c (k:Nat) (z0:(List ByteArray×List S135)) {cs0:List Value} (z1:(List ByteArray×List S135)) {cs1:List Value} (r:Bool) (w:World) (h0:kDisk.K w z0 cs0) (h1:kDisk.K w z1 cs1) (hf:eqDisk_c_f k z0 z1=some r):
  Calls Try.prog 27 #[.agg cs0.toArray,.agg cs1.toArray] w fun e w'=>e= .returned (.bool r)∧Below w.heap.size w w':=by
 obtain ⟨p_0,q_0⟩:=z0
 obtain ⟨A_00,c_00,A_01,c_01,rfl,m_00,r_00,m_01,r_01⟩:=zna h0
 obtain ⟨p_1,q_1⟩:=z1
 obtain ⟨A_10,c_10,A_11,c_11,rfl,m_10,r_10,m_11,r_11⟩:=zna h1
 exact laws_eqDisk.calls k A_00 c_00 p_0 A_01 c_01 q_0 A_10 c_10 p_1 A_11 c_11 q_1 r w r_00 m_00 r_01 m_01 r_10 m_10 r_11 m_11 hf
def heldDisk_c_f (k:Nat) (z0:(List ByteArray×List S135)) (a:Int):Option Int:=laws_heldDisk.f k z0.1 z0.2 a
theorem heldDisk_c (k:Nat) (z0:(List ByteArray×List S135)) {cs0:List Value} (a:Int) (r:Int) (w:World) (h0:kDisk.K w z0 cs0) (hf:heldDisk_c_f k z0 a=some r):
  Calls Try.prog 52 #[.agg cs0.toArray,.int .i64 a] w fun e w'=>e= .returned (.int .i64 r)∧Below w.heap.size w w':=by
 obtain ⟨p_0,q_0⟩:=z0
 obtain ⟨A_00,c_00,A_01,c_01,rfl,m_00,r_00,m_01,r_01⟩:=zna h0
 exact laws_heldDisk.calls k A_00 c_00 p_0 A_01 c_01 q_0 a r w r_00 m_00 r_01 m_01 hf
def EqWork (k:Nat) (z:(List ByteArray×List S135×Int×List Int×List Int×List Int)):Prop:=eqDisk_c_f k (z.1,z.2.1) (z.1,z.2.1)=some true∧laws_eqIntS.f k z.2.2.2.1 z.2.2.2.1=some true∧laws_eqIntS.f k z.2.2.2.2.1 z.2.2.2.2.1=some true∧laws_eqIntS.f k z.2.2.2.2.2 z.2.2.2.2.2=some true
theorem eqWork_c (k:Nat) (z:(List ByteArray×List S135×Int×List Int×List Int×List Int)) {cs ds:List Value} (w:World) (h:kWork.K w z cs) (h2:kWork.K w z ds) (hf:EqWork k z):
  Calls Try.prog 13 #[.agg cs.toArray,.agg ds.toArray] w fun e w'=>e= .returned (.bool true)∧Below w.heap.size w w':=by
 have hwp:=h
 obtain ⟨cp0,_,rfl,hp0,cp1,_,rfl,hp1,cp2,_,rfl,hp2,cp3,_,rfl,hp3,cp4,cp5,rfl,hp4,hp5⟩:=h
 have gp0:=hp0;obtain ⟨A_,k_,rfl,-,-⟩:=hp0;obtain ⟨vp0,hv⟩:∃v,v=Value.slice A_ (z.1).length k_:=⟨_,rfl⟩;rw [←hv] at gp0 hwp ⊢;clear hv
 have gp1:=hp1;obtain ⟨A_,k_,rfl,-,-⟩:=hp1;obtain ⟨vp1,hv⟩:∃v,v=Value.slice A_ (z.2.1).length k_:=⟨_,rfl⟩;rw [←hv] at gp1 hwp ⊢;clear hv
 obtain rfl:cp2=[.int .i64 z.2.2.1]:=hp2
 have gp3:=hp3;obtain ⟨A_,k_,rfl,-,-⟩:=hp3;obtain ⟨vp3,hv⟩:∃v,v=Value.slice A_ (z.2.2.2.1).length k_:=⟨_,rfl⟩;rw [←hv] at gp3 hwp ⊢;clear hv
 have gp4:=hp4;obtain ⟨A_,k_,rfl,-,-⟩:=hp4;obtain ⟨vp4,hv⟩:∃v,v=Value.slice A_ (z.2.2.2.2.1).length k_:=⟨_,rfl⟩;rw [←hv] at gp4 hwp ⊢;clear hv
 have gp5:=hp5;obtain ⟨A_,k_,rfl,-,-⟩:=hp5;obtain ⟨vp5,hv⟩:∃v,v=Value.slice A_ (z.2.2.2.2.2).length k_:=⟨_,rfl⟩;rw [←hv] at gp5 hwp ⊢;clear hv
 obtain ⟨ep,he⟩:∃cs,cs=[vp0]++([vp1]++([.int .i64 z.2.2.1]++([vp3]++([vp4]++([vp5]))))):=⟨_,rfl⟩;rw [←he] at hwp ⊢;have Ep:=zz he;have Wp:=zz hwp;have Np:=zz (show ep.length=6 from Kd.K_len _ hwp);clear he hwp
 have Kp0:=zz gp0;clear gp0
 have Kp1:=zz gp1;clear gp1
 have Kp3:=zz gp3;clear gp3
 have Kp4:=zz gp4;clear gp4
 have Kp5:=zz gp5;clear gp5
 have hwq:=h2
 obtain ⟨cq0,_,rfl,hq0,cq1,_,rfl,hq1,cq2,_,rfl,hq2,cq3,_,rfl,hq3,cq4,cq5,rfl,hq4,hq5⟩:=h2
 have gq0:=hq0;obtain ⟨A_,k_,rfl,-,-⟩:=hq0;obtain ⟨vq0,hv⟩:∃v,v=Value.slice A_ (z.1).length k_:=⟨_,rfl⟩;rw [←hv] at gq0 hwq ⊢;clear hv
 have gq1:=hq1;obtain ⟨A_,k_,rfl,-,-⟩:=hq1;obtain ⟨vq1,hv⟩:∃v,v=Value.slice A_ (z.2.1).length k_:=⟨_,rfl⟩;rw [←hv] at gq1 hwq ⊢;clear hv
 obtain rfl:cq2=[.int .i64 z.2.2.1]:=hq2
 have gq3:=hq3;obtain ⟨A_,k_,rfl,-,-⟩:=hq3;obtain ⟨vq3,hv⟩:∃v,v=Value.slice A_ (z.2.2.2.1).length k_:=⟨_,rfl⟩;rw [←hv] at gq3 hwq ⊢;clear hv
 have gq4:=hq4;obtain ⟨A_,k_,rfl,-,-⟩:=hq4;obtain ⟨vq4,hv⟩:∃v,v=Value.slice A_ (z.2.2.2.2.1).length k_:=⟨_,rfl⟩;rw [←hv] at gq4 hwq ⊢;clear hv
 have gq5:=hq5;obtain ⟨A_,k_,rfl,-,-⟩:=hq5;obtain ⟨vq5,hv⟩:∃v,v=Value.slice A_ (z.2.2.2.2.2).length k_:=⟨_,rfl⟩;rw [←hv] at gq5 hwq ⊢;clear hv
 obtain ⟨eq,he⟩:∃cs,cs=[vq0]++([vq1]++([.int .i64 z.2.2.1]++([vq3]++([vq4]++([vq5]))))):=⟨_,rfl⟩;rw [←he] at hwq ⊢;have Eq:=zz he;have Wq:=zz hwq;have Nq:=zz (show eq.length=6 from Kd.K_len _ hwq);clear he hwq
 have Kq0:=zz gq0;clear gq0
 have Kq1:=zz gq1;clear gq1
 have Kq3:=zz gq3;clear gq3
 have Kq4:=zz gq4;clear gq4
 have Kq5:=zz gq5;clear gq5
 obtain ⟨fF0,fF2,fF3,fF4⟩:=hf
 have F0:=zz fF0;clear fF0
 have F2:=zz fF2;clear fF2
 have F3:=zz fF3;clear fF3
 have F4:=zz fF4;clear fF4
 have O:=zz (Nat.le_refl w.heap.size)
 have E:=zz (Env.start w)
 go_enter Try.func13,Try.ntmps13
 go_wp2_with (first|((with_reducible refine zm (N:=6) rfl ?_);replace O:=zz (And.intro E.out.le O.out);replace E:=zz (E.out.alloc ep 34 (g:=w.heap.size) rfl);replace E:=zz (E.out.alloc eq 34 (g:=(w.heap.size+1)) zq52);refine zt rfl 32 _ rfl w.heap.size 0 [] [vp0,vp1] ([.int .i64 z.2.2.1]++([vp3]++([vp4]++[vp5]))) _ rfl (E.out.box 1 rfl) zq48 (rfl) Try.underlying32 rfl zq15 ?_)|((with_reducible refine zm (N:=8) rfl ?_);refine zt rfl 32 _ rfl (w.heap.size+1) 0 [] [vq0,vq1] ([.int .i64 z.2.2.1]++([vq3]++([vq4]++[vq5]))) _ rfl (E.out.box 0 rfl) zq106 (rfl) Try.underlying32 rfl zq15 ?_))
 ((with_reducible refine (eqDisk_c k (z.1,z.2.1) (z.1,z.2.1) true _ (zRa (E.out.K Kp0.out) (E.out.K Kp1.out)) (zRa (E.out.K Kq0.out) (E.out.K Kq1.out)) F0.out).mono ?_);rintro e w1_ ⟨rfl,hb⟩)
 replace E:=zz (E.out.call hb);clear hb
 go_wp2_with (first|((with_reducible refine zm (N:=12) rfl ?_);refine zF rfl 3 _ rfl w.heap.size 2 ([vp0]++[vp1]) (.int .i64 z.2.2.1) ([vp3]++([vp4]++[vp5])) rfl (E.out.box 1 rfl) zq48 (rfl) Try.underlying3 rfl ?_)|((with_reducible refine zm (N:=14) rfl ?_);refine zF rfl 3 _ rfl (w.heap.size+1) 2 ([vq0]++[vq1]) (.int .i64 z.2.2.1) ([vq3]++([vq4]++[vq5])) rfl (E.out.box 0 rfl) zq106 (rfl) Try.underlying3 rfl ?_)|((with_reducible refine zm (N:=17) rfl ?_);refine zF rfl 26 _ rfl w.heap.size 3 ([vp0]++([vp1]++[.int .i64 z.2.2.1])) (vp3) ([vp4]++[vp5]) rfl (E.out.box 1 rfl) zq48 (rfl) Try.underlying26 rfl ?_)|((with_reducible refine zm (N:=19) rfl ?_);refine zF rfl 26 _ rfl (w.heap.size+1) 3 ([vq0]++([vq1]++[.int .i64 z.2.2.1])) (vq3) ([vq4]++[vq5]) rfl (E.out.box 0 rfl) zq106 (rfl) Try.underlying26 rfl ?_))
 ((with_reducible refine (eqInts_c k z.2.2.2.1 _ (E.out.K Kp3.out) (E.out.K Kq3.out) F2.out).mono ?_);rintro e w2_ ⟨rfl,hb⟩)
 replace E:=zz (E.out.call hb);clear hb
 go_wp2_with (first|((with_reducible refine zm (N:=23) rfl ?_);refine zF rfl 26 _ rfl w.heap.size 4 ([vp0]++([vp1]++([.int .i64 z.2.2.1]++[vp3]))) (vp4) [vp5] rfl (E.out.box 1 rfl) zq48 (rfl) Try.underlying26 rfl ?_)|((with_reducible refine zm (N:=25) rfl ?_);refine zF rfl 26 _ rfl (w.heap.size+1) 4 ([vq0]++([vq1]++([.int .i64 z.2.2.1]++[vq3]))) (vq4) [vq5] rfl (E.out.box 0 rfl) zq106 (rfl) Try.underlying26 rfl ?_))
 ((with_reducible refine (eqInts_c k z.2.2.2.2.1 _ (E.out.K Kp4.out) (E.out.K Kq4.out) F3.out).mono ?_);rintro e w3_ ⟨rfl,hb⟩)
 replace E:=zz (E.out.call hb);clear hb
 go_wp2_with (first|((with_reducible refine zm (N:=29) rfl ?_);refine zF rfl 26 _ rfl w.heap.size 5 ([vp0]++([vp1]++([.int .i64 z.2.2.1]++([vp3]++[vp4])))) (vp5) [] rfl (E.out.box 1 rfl) zq48 (rfl) Try.underlying26 rfl ?_)|((with_reducible refine zm (N:=31) rfl ?_);refine zF rfl 26 _ rfl (w.heap.size+1) 5 ([vq0]++([vq1]++([.int .i64 z.2.2.1]++([vq3]++[vq4])))) (vq5) [] rfl (E.out.box 0 rfl) zq106 (rfl) Try.underlying26 rfl ?_))
 ((with_reducible refine (eqInts_c k z.2.2.2.2.2 _ (E.out.K Kp5.out) (E.out.K Kq5.out) F4.out).mono ?_);rintro e w4_ ⟨rfl,hb⟩)
 replace E:=zz (E.out.call hb);clear hb
 go_wp2_with fail
 go_ret
 exact ⟨rfl,E.out.below⟩
def HeldWork (k:Nat) (z:(List ByteArray×List S135×Int×List Int×List Int×List Int)) (a r:Int):Prop:=∃t1 t2 t3:Int,heldDisk_c_f k (z.1,z.2.1) a=some t1∧¬t1<0∧laws_heldIntS.f k z.2.2.2.1 t1=some t2∧¬t2<0∧laws_heldIntS.f k z.2.2.2.2.1 t2=some t3∧¬t3<0∧laws_heldIntS.f k z.2.2.2.2.2 t3=some r∧¬r<0
theorem heldWork_c (k:Nat) (z:(List ByteArray×List S135×Int×List Int×List Int×List Int)) (a r:Int) {cs:List Value} (w:World) (h:kWork.K w z cs) (hf:HeldWork k z a r):
  Calls Try.prog 15 #[.agg cs.toArray,.int .i64 a] w fun e w'=>e= .returned (.int .i64 r)∧Below w.heap.size w w':=by
 have hwp:=h
 obtain ⟨cp0,_,rfl,hp0,cp1,_,rfl,hp1,cp2,_,rfl,hp2,cp3,_,rfl,hp3,cp4,cp5,rfl,hp4,hp5⟩:=h
 have gp0:=hp0;obtain ⟨A_,k_,rfl,-,-⟩:=hp0;obtain ⟨vp0,hv⟩:∃v,v=Value.slice A_ (z.1).length k_:=⟨_,rfl⟩;rw [←hv] at gp0 hwp ⊢;clear hv
 have gp1:=hp1;obtain ⟨A_,k_,rfl,-,-⟩:=hp1;obtain ⟨vp1,hv⟩:∃v,v=Value.slice A_ (z.2.1).length k_:=⟨_,rfl⟩;rw [←hv] at gp1 hwp ⊢;clear hv
 obtain rfl:cp2=[.int .i64 z.2.2.1]:=hp2
 have gp3:=hp3;obtain ⟨A_,k_,rfl,-,-⟩:=hp3;obtain ⟨vp3,hv⟩:∃v,v=Value.slice A_ (z.2.2.2.1).length k_:=⟨_,rfl⟩;rw [←hv] at gp3 hwp ⊢;clear hv
 have gp4:=hp4;obtain ⟨A_,k_,rfl,-,-⟩:=hp4;obtain ⟨vp4,hv⟩:∃v,v=Value.slice A_ (z.2.2.2.2.1).length k_:=⟨_,rfl⟩;rw [←hv] at gp4 hwp ⊢;clear hv
 have gp5:=hp5;obtain ⟨A_,k_,rfl,-,-⟩:=hp5;obtain ⟨vp5,hv⟩:∃v,v=Value.slice A_ (z.2.2.2.2.2).length k_:=⟨_,rfl⟩;rw [←hv] at gp5 hwp ⊢;clear hv
 obtain ⟨ep,he⟩:∃cs,cs=[vp0]++([vp1]++([.int .i64 z.2.2.1]++([vp3]++([vp4]++([vp5]))))):=⟨_,rfl⟩;rw [←he] at hwp ⊢;have Ep:=zz he;have Wp:=zz hwp;have Np:=zz (show ep.length=6 from Kd.K_len _ hwp);clear he hwp
 have Kp0:=zz gp0;clear gp0
 have Kp1:=zz gp1;clear gp1
 have Kp3:=zz gp3;clear gp3
 have Kp4:=zz gp4;clear gp4
 have Kp5:=zz gp5;clear gp5
 obtain ⟨t1,t2,t3,f0,n0,f1,n1,f2,n2,f3,n3⟩:=hf
 have F0:=zz f0;clear f0;replace n0:decide (t1<0)=false:=decide_eq_false n0
 have F1:=zz f1;clear f1;replace n1:decide (t2<0)=false:=decide_eq_false n1
 have F2:=zz f2;clear f2;replace n2:decide (t3<0)=false:=decide_eq_false n2
 have F3:=zz f3;clear f3;replace n3:decide (r<0)=false:=decide_eq_false n3
 have O:=zz (Nat.le_refl w.heap.size)
 have E:=zz (Env.start w)
 go_enter Try.func15,Try.ntmps15
 go_wp2_with (first|((with_reducible refine zm (N:=6) rfl ?_);replace O:=zz (And.intro E.out.le O.out);replace E:=zz (E.out.alloc ep 34 (g:=w.heap.size) rfl);refine zt rfl 32 _ rfl w.heap.size 0 [] [vp0,vp1] ([.int .i64 z.2.2.1]++([vp3]++([vp4]++[vp5]))) _ rfl (E.out.box 0 rfl) zq48 (rfl) Try.underlying32 rfl zq15 ?_))
 ((with_reducible refine (heldDisk_c k (z.1,z.2.1) a t1 _ (zRa (E.out.K Kp0.out) (E.out.K Kp1.out)) F0.out).mono ?_);rintro e w1_ ⟨rfl,hb⟩)
 replace E:=zz (E.out.call hb);clear hb
 go_wp2_with (first|((with_reducible refine zm (N:=12) rfl ?_);refine zF rfl 26 _ rfl w.heap.size 3 ([vp0]++([vp1]++[.int .i64 z.2.2.1])) (vp3) ([vp4]++[vp5]) rfl (E.out.box 0 rfl) zq48 (rfl) Try.underlying26 rfl ?_))
 ((with_reducible refine (heldInts_c k z.2.2.2.1 t1 t2 _ (E.out.K Kp3.out) F1.out).mono ?_);rintro e w2_ ⟨rfl,hb⟩)
 replace E:=zz (E.out.call hb);clear hb
 go_wp2_with (first|((with_reducible refine zm (N:=18) rfl ?_);refine zF rfl 26 _ rfl w.heap.size 4 ([vp0]++([vp1]++([.int .i64 z.2.2.1]++[vp3]))) (vp4) [vp5] rfl (E.out.box 0 rfl) zq48 (rfl) Try.underlying26 rfl ?_))
 ((with_reducible refine (heldInts_c k z.2.2.2.2.1 t2 t3 _ (E.out.K Kp4.out) F2.out).mono ?_);rintro e w3_ ⟨rfl,hb⟩)
 replace E:=zz (E.out.call hb);clear hb
 go_wp2_with (first|((with_reducible refine zm (N:=24) rfl ?_);refine zF rfl 26 _ rfl w.heap.size 5 ([vp0]++([vp1]++([.int .i64 z.2.2.1]++([vp3]++[vp4])))) (vp5) [] rfl (E.out.box 0 rfl) zq48 (rfl) Try.underlying26 rfl ?_))
 ((with_reducible refine (heldInts_c k z.2.2.2.2.2 t3 r _ (E.out.K Kp5.out) F3.out).mono ?_);rintro e w4_ ⟨rfl,hb⟩)
 replace E:=zz (E.out.call hb);clear hb
 go_wp2_with fail
 go_ret
 exact ⟨rfl,E.out.below⟩
def ToWork (k:Nat) (a:(List ByteArray×List S140×Int×List Int×List Int×List Int)) (z:(List ByteArray×List S135×Int×List Int×List Int×List Int)):Prop:=laws_toDisk.f k a.1 a.2.1=some (z.1,z.2.1)∧z.2.2.1=a.2.2.1∧laws_toIntS.f k a.2.2.2.1=some z.2.2.2.1∧laws_toIntS.f k a.2.2.2.2.1=some z.2.2.2.2.1∧laws_toIntS.f k a.2.2.2.2.2=some z.2.2.2.2.2
theorem toWork_c (k:Nat) (a:(List ByteArray×List S140×Int×List Int×List Int×List Int)) (z:(List ByteArray×List S135×Int×List Int×List Int×List Int)) {cs:List Value} (w:World) (h:kWorkL.K w a cs) (hf:ToWork k a z):
  Calls Try.prog 11 #[.agg cs.toArray] w fun e w'=>∃ds:List Value,e= .returned (.agg ds.toArray)∧kWork.M w' w.heap.size (Fr w w') z ds∧Below w.heap.size w w':=by
 have hwp:=h
 obtain ⟨cp0,_,rfl,hp0,cp1,_,rfl,hp1,cp2,_,rfl,hp2,cp3,_,rfl,hp3,cp4,cp5,rfl,hp4,hp5⟩:=h
 have gp0:=hp0;obtain ⟨A_,k_,rfl,-,-⟩:=hp0;obtain ⟨vp0,hv⟩:∃v,v=Value.slice A_ (a.1).length k_:=⟨_,rfl⟩;rw [←hv] at gp0 hwp ⊢;clear hv
 have gp1:=hp1;obtain ⟨A_,k_,rfl,-,-⟩:=hp1;obtain ⟨vp1,hv⟩:∃v,v=Value.slice A_ (a.2.1).length k_:=⟨_,rfl⟩;rw [←hv] at gp1 hwp ⊢;clear hv
 obtain rfl:cp2=[.int .i64 a.2.2.1]:=hp2
 have gp3:=hp3;obtain ⟨A_,k_,rfl,-,-⟩:=hp3;obtain ⟨vp3,hv⟩:∃v,v=Value.slice A_ (a.2.2.2.1).length k_:=⟨_,rfl⟩;rw [←hv] at gp3 hwp ⊢;clear hv
 have gp4:=hp4;obtain ⟨A_,k_,rfl,-,-⟩:=hp4;obtain ⟨vp4,hv⟩:∃v,v=Value.slice A_ (a.2.2.2.2.1).length k_:=⟨_,rfl⟩;rw [←hv] at gp4 hwp ⊢;clear hv
 have gp5:=hp5;obtain ⟨A_,k_,rfl,-,-⟩:=hp5;obtain ⟨vp5,hv⟩:∃v,v=Value.slice A_ (a.2.2.2.2.2).length k_:=⟨_,rfl⟩;rw [←hv] at gp5 hwp ⊢;clear hv
 obtain ⟨ep,he⟩:∃cs,cs=[vp0]++([vp1]++([.int .i64 a.2.2.1]++([vp3]++([vp4]++([vp5]))))):=⟨_,rfl⟩;rw [←he] at hwp ⊢;have Ep:=zz he;have Wp:=zz hwp;have Np:=zz (show ep.length=6 from Kd.K_len _ hwp);clear he hwp
 have Kp0:=zz gp0;clear gp0
 have Kp1:=zz gp1;clear gp1
 have Kp3:=zz gp3;clear gp3
 have Kp4:=zz gp4;clear gp4
 have Kp5:=zz gp5;clear gp5
 obtain ⟨fF0,fF1,fF2,fF3,fF4⟩:=hf
 have F0:=zz fF0;clear fF0
 have F1:=zz fF1;clear fF1
 have F2:=zz fF2;clear fF2
 have F3:=zz fF3;clear fF3
 have F4:=zz fF4;clear fF4
 have O:=zz (Nat.le_refl w.heap.size)
 have E:=zz (Env.start w)
 go_enter Try.func11,Try.ntmps11
 go_wp2_with (first|((with_reducible refine zm (N:=5) rfl ?_);replace O:=zz (And.intro E.out.le O.out);replace E:=zz (E.out.alloc ep 28 (g:=w.heap.size) rfl);replace E:=zz (E.out.alloc Z34 34 (g:=(w.heap.size+1)) zq52);replace E:=zz (E.out.alloc Z34 34 (g:=(w.heap.size+1+1)) zq52);refine zt rfl 25 _ rfl w.heap.size 0 [] [vp0,vp1] ([.int .i64 a.2.2.1]++([vp3]++([vp4]++[vp5]))) _ rfl (E.out.box 2 rfl) zq48 (rfl) Try.underlying25 rfl zq15 ?_))
 ((with_reducible refine (toDisk_c k (a.1,a.2.1) (z.1,z.2.1) _ (kDiskL_lit (E.out.K Kp0.out) (E.out.K Kp1.out)) F0.out).mono ?_);rintro e w1_ ⟨d2_,rfl,Md2_,hb⟩)
 have q:=E.out.made4 O.out 2 rfl Md2_ hb;clear O E Md2_ hb;obtain ⟨n3_,m4_,Ld2_,Od2_,O,E⟩:=q
 go_wp2_with (first|((with_reducible refine zv (t:=32) (p:=7) rfl ?_);refine zB rfl 32 _ _ rfl rfl (w.heap.size+1+1) 0 d2_ [] [.slice none 0 0,.slice none 0 0] [.int .i64 0,.slice none 0 0,.slice none 0 0,.slice none 0 0] rfl rfl (E.out.box 1 rfl) zq13 (rfl) (zq99 Ld2_.out) (zq43 Ld2_.out) Od2_.out ?_;intro W5_ hp hn;replace E:=E.out.put2 1 hp hn zq19;clear hp hn)|((with_reducible refine zm (N:=9) rfl ?_);refine zF rfl 3 _ rfl w.heap.size 2 ([vp0]++[vp1]) (.int .i64 a.2.2.1) ([vp3]++([vp4]++[vp5])) rfl (E.out.box 3 rfl) zq48 (rfl) Try.underlying3 rfl ?_)|((with_reducible refine zv (t:=3) (p:=10) rfl ?_);refine zda rfl 3 _ _ rfl rfl (w.heap.size+1+1) 2 (.int .i64 a.2.2.1) (.int .i64 0) d2_ [.slice none 0 0,.slice none 0 0,.slice none 0 0] rfl rfl (E.out.box 1 rfl) zq13 (Ld2_.out) zq15 rfl rfl ?_;intro W6_ hp hn;replace E:=E.out.put2 1 hp hn zq19;clear hp hn)|((with_reducible refine zm (N:=12) rfl ?_);refine zF rfl 26 _ rfl w.heap.size 3 ([vp0]++([vp1]++[.int .i64 a.2.2.1])) (vp3) ([vp4]++[vp5]) rfl (E.out.box 3 rfl) zq48 (rfl) Try.underlying26 rfl ?_))
 ((with_reducible refine (toInts_c k a.2.2.2.1 z.2.2.2.1 _ (E.out.K Kp3.out) F2.out).mono ?_);rintro e w7_ ⟨d8_,rfl,Md8_,hb⟩)
 have q:=E.out.made4 O.out 1 rfl Md8_ hb;clear O E Md8_ hb;obtain ⟨n9_,m10_,Ld8_,Od8_,O,E⟩:=q
 obtain ⟨B11_,e12_,hv,-⟩:=E.out.mk_ 0 rfl;injection hv with hv;subst hv
 go_wp2_with (first|((with_reducible refine zv (t:=26) (p:=14) rfl ?_);refine zda rfl 26 _ _ rfl rfl (w.heap.size+1+1) 3 (.slice B11_ z.2.2.2.1.length e12_) (.slice none 0 0) (d2_++[.int .i64 a.2.2.1]) [.slice none 0 0,.slice none 0 0] rfl rfl (E.out.box 2 rfl) zq13 (zq105 Ld2_.out) zq15 rfl rfl ?_;intro W13_ hp hn;replace E:=E.out.put2 2 hp hn zq19;clear hp hn)|((with_reducible refine zm (N:=16) rfl ?_);refine zF rfl 26 _ rfl w.heap.size 4 ([vp0]++([vp1]++([.int .i64 a.2.2.1]++[vp3]))) (vp4) [vp5] rfl (E.out.box 4 rfl) zq48 (rfl) Try.underlying26 rfl ?_))
 ((with_reducible refine (toInts_c k a.2.2.2.2.1 z.2.2.2.2.1 _ (E.out.K Kp4.out) F3.out).mono ?_);rintro e w14_ ⟨d15_,rfl,Md15_,hb⟩)
 have q:=E.out.made4 O.out 1 rfl Md15_ hb;clear O E Md15_ hb;obtain ⟨n16_,m17_,Ld15_,Od15_,O,E⟩:=q
 obtain ⟨B18_,e19_,hv,-⟩:=E.out.mk_ 0 rfl;injection hv with hv;subst hv
 go_wp2_with (first|((with_reducible refine zv (t:=26) (p:=18) rfl ?_);refine zda rfl 26 _ _ rfl rfl (w.heap.size+1+1) 4 (.slice B18_ z.2.2.2.2.1.length e19_) (.slice none 0 0) (d2_++([.int .i64 a.2.2.1]++[.slice B11_ z.2.2.2.1.length e12_])) [.slice none 0 0] rfl rfl (E.out.box 3 rfl) zq13 (zq105 Ld2_.out) zq15 rfl rfl ?_;intro W20_ hp hn;replace E:=E.out.put2 3 hp hn zq19;clear hp hn)|((with_reducible refine zm (N:=20) rfl ?_);refine zF rfl 26 _ rfl w.heap.size 5 ([vp0]++([vp1]++([.int .i64 a.2.2.1]++([vp3]++[vp4])))) (vp5) [] rfl (E.out.box 5 rfl) zq48 (rfl) Try.underlying26 rfl ?_))
 ((with_reducible refine (toInts_c k a.2.2.2.2.2 z.2.2.2.2.2 _ (E.out.K Kp5.out) F4.out).mono ?_);rintro e w21_ ⟨d22_,rfl,Md22_,hb⟩)
 have q:=E.out.made4 O.out 1 rfl Md22_ hb;clear O E Md22_ hb;obtain ⟨n23_,m24_,Ld22_,Od22_,O,E⟩:=q
 obtain ⟨B25_,e26_,hv,-⟩:=E.out.mk_ 0 rfl;injection hv with hv;subst hv
 obtain ⟨c28_,Ec28_,Lc28_,Oc28_⟩:=lump_ (d2_++([.int .i64 a.2.2.1]++([.slice B11_ z.2.2.2.1.length e12_]++([.slice B18_ z.2.2.2.2.1.length e19_]++[.slice B25_ z.2.2.2.2.2.length e26_])))) 6 (zq105 Ld2_.out) (zva Od2_.out (zva (ones1 rfl) (zva (ones1 rfl) (zva (ones1 rfl) (ones1 rfl)))))
 go_wp2_with (first|((with_reducible refine zv (t:=26) (p:=22) rfl ?_);refine zda rfl 26 _ _ rfl rfl (w.heap.size+1+1) 5 (.slice B25_ z.2.2.2.2.2.length e26_) (.slice none 0 0) (d2_++([.int .i64 a.2.2.1]++([.slice B11_ z.2.2.2.1.length e12_]++[.slice B18_ z.2.2.2.2.1.length e19_]))) [] rfl rfl (E.out.box 4 rfl) zq13 (zq105 Ld2_.out) zq15 rfl rfl ?_;intro W27_ hp hn;replace E:=E.out.put2 4 hp hn zq19;clear hp hn)|((with_reducible refine zm (N:=23) rfl ?_);refine zt rfl 34 _ rfl (w.heap.size+1+1) 0 [] c28_ [] _ rfl (E.out.box 4 rfl) (zq118 Ec28_.out) (rfl) Try.underlying34 rfl (zq43 Lc28_.out) ?_)|((with_reducible refine zv (t:=34) (p:=2) rfl ?_);refine zB rfl 34 _ _ rfl rfl (w.heap.size+1) 0 c28_ [] Z34 [] rfl rfl (E.out.box 5 rfl) zq13 (rfl) (zq99 Lc28_.out) (zq43 Lc28_.out) Oc28_.out ?_;intro W29_ hp hn;replace E:=E.out.put2 5 hp hn zq19;clear hp hn))
 have BX:=zz (show _=some (Obj.cells (c28_:List Value).toArray 34 (0,0)) from by first|exact (E.out.box 5 rfl)|simpa only [aA,aN,aL] using (E.out.box 5 rfl))
 refine bodyPost_ret (zDa rfl _ _ (w.heap.size+1) 34 _ _ _ rfl BX.out Try.underlying34 rfl (by rw [List.size_toArray,show (c28_:List Value).length=6 from Lc28_.out];kernel_rfl)) rfl ?_
 have e_:((z.1,z.2.1,a.2.2.1,z.2.2.2.1,z.2.2.2.2.1,z.2.2.2.2.2):(List ByteArray×List S135×Int×List Int×List Int×List Int))=z:=by (try simp only [←F1.out])<;>rfl
 rw [←e_]
 exact ⟨_,rfl,(zq55 Ec28_.out),E.out.below⟩
def spec_l01In.f (a0:Int) (a1:Int) (a2:Int):Option (Bool):=if a0≥a1 then (some (decide (a0≤a2))) else (some false)
theorem spec_l01In.calls (a0:Int) (a1:Int) (a2:Int) (r:Bool) (w:World) (h:spec_l01In.f a0 a1 a2=some r):
  Calls Try.prog 108 #[.int .i64 a0,.int .i64 a1,.int .i64 a2] w fun e w'=>e= .returned (.bool r)∧Drawn0 w w':=by
 have H:(if a0≥a1 then (some (decide (a0≤a2))) else (some false))=some r:=h
 clear h
 by_cases c4:a0≥a1
 ·rw [if_pos c4] at H
  have c4b0:decide (a1≤a0)=true:=decide_eq_true c4
  clear c4
  obtain rfl:=Option.some.inj H
  go_enter Try.func108,Try.ntmps108
  go_wp2
  go_ret
  exact ⟨zq16,by repeat (first|exact Drawn0.refl _|apply Drawn0.step)⟩
 ·rw [if_neg c4] at H
  have c4b0:decide (a1≤a0)=false:=decide_eq_false c4
  clear c4
  obtain rfl:=Option.some.inj H
  go_enter Try.func108,Try.ntmps108
  go_wp2
  go_ret
  exact ⟨zq16,by repeat (first|exact Drawn0.refl _|apply Drawn0.step)⟩
def impl_in.f (a0:Int) (a1:Int) (a2:Int):Option (Bool):=if a0≥a1 then (some (decide (a0≤a2))) else (some false)
theorem impl_in.calls (a0:Int) (a1:Int) (a2:Int) (r:Bool) (w:World) (h:impl_in.f a0 a1 a2=some r):
  Calls Try.prog 121 #[.int .i64 a0,.int .i64 a1,.int .i64 a2] w fun e w'=>e= .returned (.bool r)∧Drawn0 w w':=by
 have H:(if a0≥a1 then (some (decide (a0≤a2))) else (some false))=some r:=h
 clear h
 by_cases c4:a0≥a1
 ·rw [if_pos c4] at H
  have c4b0:decide (a1≤a0)=true:=decide_eq_true c4
  clear c4
  obtain rfl:=Option.some.inj H
  go_enter Try.func121,Try.ntmps121
  go_wp2
  go_ret
  exact ⟨zq16,by repeat (first|exact Drawn0.refl _|apply Drawn0.step)⟩
 ·rw [if_neg c4] at H
  have c4b0:decide (a1≤a0)=false:=decide_eq_false c4
  clear c4
  obtain rfl:=Option.some.inj H
  go_enter Try.func121,Try.ntmps121
  go_wp2
  go_ret
  exact ⟨zq16,by repeat (first|exact Drawn0.refl _|apply Drawn0.step)⟩
def impl_isPage.f (l0_0:List ByteArray) (l0_1:List (S135)) (a1:Int):Option (Bool):=(impl_in.f a1 0 (wrap64 ((l0_0.length:Int)-1))).bind fun t470=>(some t470)
theorem impl_isPage.calls (A0_0:Option Addr) (c0_0:Nat) (l0_0:List ByteArray) (A0_1:Option Addr) (c0_1:Nat) (l0_1:List (S135)) (a1:Int) (r:Bool) (w:World) (hr0_0:Kd.C Kd.string w A0_0 l0_0.length l0_0) (hc0_0:l0_0.length≤c0_0) (hr0_1:Kd.C k135 w A0_1 l0_1.length l0_1) (hc0_1:l0_1.length≤c0_1) (h:impl_isPage.f l0_0 l0_1 a1=some r):
  Calls Try.prog 113 #[.agg #[.slice A0_0 l0_0.length c0_0,.slice A0_1 l0_1.length c0_1],.int .i64 a1] w fun e w'=>e= .returned (.bool r)∧Below w.heap.size w w':=by
 have hu32:=Try.underlying32
 have HR0_0:=zz hr0_0
 have HC0_0:=zz hc0_0
 clear hr0_0 hc0_0
 have HR0_1:=zz hr0_1
 have HC0_1:=zz hc0_1
 clear hr0_1 hc0_1
 have HB:=zz (Below.refl w.heap.size w)
 have H:((impl_in.f a1 0 (wrap64 ((l0_0.length:Int)-1))).bind fun t470=>(some t470))=some r:=h
 clear h
 replace H:=Option.bind_eq_some_iff.mp H
 obtain ⟨t470,A30,H⟩:=H
 replace H:(some t470)=some r:=H
 have A3:=zz A30
 clear A30
 obtain rfl:=Option.some.inj H
 go_enter Try.func113,Try.ntmps113
 go_wp2_with (first|((with_reducible refine zm (N:=2) rfl ?_);refine zq ?hg (N:=2) ?hd (cs:= #[.slice A0_0 l0_0.length c0_0,.slice A0_1 l0_1.length c0_1]) (t:=32) ?hr ?_;(case hd=>rfl);(case hg=>rfl);(case hr=>first|(go_simp;done)|(go_simp;rfl));intro gb469 hg w4 hbox hb;have n0_:=zz (ze zq2 hb);have n1_:=zz (hbox);have n2_:=zz ((by rw [hg];exact (zc zq2):w.heap.size≤gb469));have n3_:=zz ((by rw [hg];exact (zc zq2):w.heap.size≤gb469));clear HB;have HB:=n0_;have BK469:=n1_;have GW469:=n2_;have GE469:=n3_;clear n0_ n1_ n2_ n3_;clear hb hbox hg;have hcz5_0:w4.cell? ⟨gb469,0,none⟩=some (.slice A0_0 l0_0.length c0_0):=(zb BK469.out 0).trans rfl;have hcz5_1:w4.cell? ⟨gb469,1,none⟩=some (.slice A0_1 l0_1.length c0_1):=(zb BK469.out 1).trans rfl;have hfz5_0:=za BK469.out 0;have hfz5_1:=za BK469.out 1)|((with_reducible refine zo (f:=121) rfl ?_);refine zw (some 10) rfl rfl Try.func121 zq15 rfl #[.int .i64 a1,.int .i64 0,.int .i64 (wrap64 ((l0_0.length:Int)-1))] rfl zq4 ?_;(with_reducible refine (impl_in.calls a1 0 (wrap64 ((l0_0.length:Int)-1)) t470 _ A3.out).mono ?_);rintro e w' ⟨rfl,⟨nd,rfl⟩⟩;refine ⟨_,rfl,?_⟩))
 go_ret
 exact ⟨zq10,by repeat (first|(with_reducible first|exact HB.out|apply zg|apply zd|apply zk|refine zn ?_ GE469.out)|exact HB.out)⟩
theorem Env.mbound {w0 W:World} {top:Nat} {fs:List Fct} (E:Env w0 W top fs) (i:Nat) {α:Type} {d:Kd α} {base lo hi:Nat} {ok:Nat→Prop} {x:α} {cs:List Value} (hf:fs[i]?=some (Fct.made d base lo hi ok x cs)):∀k,ok k∧Iv lo hi k→k<W.heap.size:=
 fun k hk=>Nat.lt_of_lt_of_le hk.2.2 (Nat.le_trans (All.get i E.all hf).1 E.le)
theorem Env.marked {w0 W W':World} {top:Nat} {fs:List Fct} (E:Env w0 W top fs) (i:Nat) {α:Type} {d:Kd α} {lo hi:Nat} {ok:Nat→Prop} {x x':α} {cs:List Value} (hf:fs[i]?=some (Fct.made d w0.heap.size lo hi ok x cs)) (M:d.M W' w0.heap.size (fun k=>ok k∧Iv lo hi k) x' cs) (hB:Below w0.heap.size w0 W') (hK:Kept W W' (fun k=>ok k∧Iv lo hi k)) (ho:Off2 lo hi fs i):Env w0 W' top (fs.set i (Fct.made d w0.heap.size lo hi ok x' cs)):=
 ⟨hB,Nat.le_trans E.le hK.1,E.ge,All.off2 (fun k hk h2=>hK.2 k (Nat.lt_of_lt_of_le hk E.le) (fun h=>by have h3:=h.2.1;have h4:=h.2.2;omega)) (Nat.le_refl _) (f':=Fct.made d w0.heap.size lo hi ok x' cs) (show hi≤top from (All.get i E.all hf).1) M i E.all ho⟩
def EvP (P:Nat→Prop):Prop:=∃K,∀k,K≤k→P k
theorem EvP.and {P Q:Nat→Prop} (h:EvP P) (h2:EvP Q):EvP (fun k=>P k∧Q k):=by
 obtain ⟨K,h⟩:=h
 obtain ⟨J,h2⟩:=h2
 exact ⟨K+J,fun k hk=>⟨h k zq11,h2 k zq11⟩⟩
theorem EvP.now {P:Prop} (h:P):EvP (fun _=>P):=⟨0,fun _ _=>h⟩
theorem EvP.imp {P Q:Nat→Prop} (h:EvP P) (hi:∀k,P k→Q k):EvP Q:=by
 obtain ⟨K,h⟩:=h
 exact ⟨K,fun k hk=>hi k (h k hk)⟩
theorem EvP.of {α:Type} {f:Nat→Option α} {r:α} (h:Ev f r):EvP (fun k=>f k=some r):=h
def MHead (x:S53):Prop:=(0≤x.f0∧x.f0≤100000)∧(2≤x.f2∧x.f2≤40)∧(x.f1=0∨(2≤x.f1∧x.f1≤x.f2-1))∧x.f3.length≤20
def FrHead (x:S53) (i:Nat) (f:S122):Prop:=(1≤f.f0∧f.f0≤x.f0)∧(∀g:S122,0<i→x.f3[i-1]?=some g→g.f0<f.f0)∧(1≤f.f1.length∧f.f1.length≤40)
def PgOk (x:S53) (seen ps:List Int) (k:Nat) (p:Int):Prop:=(2≤p∧p≤x.f2-1)∧(∀q:Int,0<k→ps[k-1]?=some q→q<p)∧p∉seen++ps.take k
def seenAt (x:S53) (i:Nat):List Int:=x.f1::(x.f3.take i).flatMap (·.f1)
def FrPages (x:S53) (i:Nat) (f:S122):Prop:=∀k p,f.f1[k]?=some p→PgOk x (seenAt x i) f.f1 k p
def MOk (x:S53):Prop:=MHead x∧∀i f,x.f3[i]?=some f→FrHead x i f∧FrPages x i f
def inB (a lo hi:Int):Bool:=decide (lo≤a)&&decide (a≤hi)
theorem inB_at {a lo hi:Int} (h:lo≤a):decide (a≤hi)=inB a lo hi:=by simp [inB,h]
theorem inB_af {a lo hi:Int} (h:¬lo≤a):false=inB a lo hi:=by simp only [inB,h,decide_false,Bool.false_and]
theorem rb {a b:Bool} (h:a=b):Ending.returned (.bool a)= .returned (.bool b):=by rw [h]
theorem inI (a lo hi:Int) (w:World):Calls Try.prog 121 #[.int .i64 a,.int .i64 lo,.int .i64 hi] w fun e w'=>e= .returned (.bool (inB a lo hi))∧w=w':=by
 by_cases h:lo≤a
 ·go_enter Try.func121,Try.ntmps121
  go_wp2
  go_ret
  exact ⟨rb (inB_at h),rfl⟩
 ·go_enter Try.func121,Try.ntmps121
  go_wp2
  go_ret
  exact ⟨rb (inB_af zq11),rfl⟩
structure SeenAt (w w':World) (cs:List Value) (seen:List Int) (v:Value):Prop where
 row:Kd.R (Kd.int .i64) 3 w' w.heap.size (fun k=>w.heap.size<k) v seen
 box:w'.heap[w.heap.size]?=some (.cells cs.toArray 53 (0,0))
 bel:Below w.heap.size w w'
theorem SeenAt.step {w w' w2:World} {cs:List Value} {seen:List Int} {v:Value} (h:SeenAt w w' cs seen v) (hb:Below w'.heap.size w' w2):SeenAt w w2 cs seen v:=⟨Kd.R_below h.row hb,zi h.box hb,ze h.bel hb⟩
end Go.Proofs.Ytonhdiemjgdcnaa.PFnExactGivePage
