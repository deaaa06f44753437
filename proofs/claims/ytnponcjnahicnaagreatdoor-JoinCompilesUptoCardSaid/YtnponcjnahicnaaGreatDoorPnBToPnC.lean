/- Parts of the proof. -/
import Derived.Test.YtnponcjnahicnaaGreatDoorRelTToPnA
set_option linter.unusedSimpArgs false
set_option linter.unusedVariables false
set_option maxRecDepth 100000
set_option maxHeartbeats 2000000
open Go.Proofs.Tryz(prog)
open List(all_cons any_append any_cons getElem?_cons_succ getElem?_cons_zero take_succ_cons)
namespace Go.Proofs.P16
open Go.RowKit Go.Ink
attribute [local go_sem] Oper.semAt_some
theorem qhs {a b:ByteArray}(h:a=b):(a.toList==b.toList)=true:=by simp [h]
theorem qfr {a b:ByteArray}(h:a≠b):(a.toList==b.toList)=false:=by
 rw [←beq_toListBytes];exact yZ.2 h
theorem qf8 (a b:ByteArray):(a=b)=((a.toList==b.toList)=true):=by
 rw [←beq_toListBytes,xB]
def qf9:ByteArray:=⟨#[105,110,112,117,116]⟩
def qe0:ByteArray:=⟨#[111,117,116,112,117,116]⟩
def qjc:ByteArray:=⟨#[110,111,116]⟩
def qd7 (s:ByteArray):Int:=(qb9 s).headD 0
def qdz (s:ByteArray):Bool:=decide (s=qf9) ||decide (s=qe0) ||decide (s=qjc)
def qdi (s:ByteArray):Bool:=qbi s&&qfv (qd7 s)&&!qdz s
def qg9 (s:ByteArray):Bool:=qbi s&&qe2 (qd7 s)
def qga (s:ByteArray):Bool:=decide (s.size<=1024)
def qgo (s:ByteArray):Int:=
 if qbi s then
  if qh8 (qd7 s) then (if (qb9 s).all (fun c=>decide (c<=57)) then 3 else 0)
  else if qe2 (qd7 s) then 2
  else if qd7 s=95 then 0
  else if s=qf9 then 5 else if s=qe0 then 6 else if s=qjc then 7 else 1
 else 0
theorem qjd {s:ByteArray}(h:qbi s=true):qbx (qd7 s)=true:=by
 unfold qbi at h;rw [zV,zV,zT,zT]at h;have d:=qii s;unfold qd7;cases b:qb9 s with
 |nil=>rw [b] at d;simp at d;omega
 |cons c r=>rw [b] at h;simp only [all_cons,zV] at h;exact h.1.1
theorem qw7 (s:ByteArray):decide (qgo s=1)=qdi s:=by
 unfold qgo qdi qdz;cases g:qbi s with
 |false=>simp
 |true=>
  have f:=qjd g;simp only [yg,yT];generalize qd7 s=c at f;simp only [qbx,qfv,qe2,qh8,y8,zV,zT]at f⊢;by_cases b:s=qf9
  ·rw [zI b];simp only [b,decide_true,Bool.true_or,Bool.not_true,yN];repeat' split
   all_goals simp
  ·by_cases d:s=qe0
   ·rw [zF b,zI d];simp only [d,decide_true,Bool.true_or,Bool.or_true,Bool.not_true,yN];repeat' split
    all_goals simp
   ·by_cases e:s=qjc
    ·rw [zF b,zF d,zI e];simp only [e,decide_true,Bool.true_or,Bool.or_true,Bool.not_true,yN];repeat' split
     all_goals simp
    ·rw [zF b,zF d,zF e];simp only [b,d,e,decide_false,Bool.or_self,Bool.not_false,xJ];rw [yt];simp only [zV,zT]
     repeat' split
     all_goals omega
theorem qzi (s:ByteArray):decide (qgo s=2)=qg9 s:=by
 unfold qgo qg9;cases d:qbi s with
 |false=>simp
 |true=>
  have b:=qjd d;simp only [yg,yT];generalize qd7 s=c at b;simp only [qbx,qfv,qe2,qh8,y8,zV,zT]at b⊢;rw [yt];simp only [zV,zT]
  repeat' split
  all_goals omega
theorem qoz (s:ByteArray)(w:World):Calls prog 130 #[.string s] w fun e w'=>e=.returned (.int .i64 (qgo s))/\w'=w:=by
 by_cases hw:1<=s.size/\s.size<=64
 ·obtain⟨h1,h2⟩:=hw;have g1: ¬(s.size:Int)<1:=by omega
  have g2: ¬64<(s.size:Int):=xz
  go_enter Tryz.func130,Tryz.ntmps130
  go_wp2_with fail
  go_loopw [16,3] (fun i dg wr=> ∃k:Nat,k<=s.size/\i=.int .i64 (k:Int)/\dg=.bool (((qb9 s).take k).all fun c=>decide (c<=57))/\wr=w/\((qb9 s).take k).all qbx=true) (fun i _ _=>s.size-(intOf i).toNat)
  case atStart=>exact⟨0,xz,rfl,rfl,rfl,rfl⟩
  case round=>
   obtain⟨k,hk,rfl,rfl,g,f⟩:=hrel;have g:=g.symm;subst g;by_cases ah:k<s.size
   ·have aw:(k:Int)<s.size:=by omega
    have aF:(0:Int)<=k:=xz
    have d:=qfg s ah;have p:=qhc qbx (qb9 s) d;have l:=qhc (fun c=>decide (c<=57)) (qb9 s) d;rw [f,yT]at p;obtain⟨dg,j⟩: ∃b,(((qb9 s).take k).all fun c=>decide (c<=57))=b:=⟨_,rfl⟩;rw [j]at l;rw [j];have m:=qu5 ((s[k].toNat:Nat):Int) w;cases U:qbx ((s[k].toNat:Nat):Int) with
    |false=>
     rw [U]at m;have Y:=qiz qbx _ d U;have hE:qgo s=0:=by unfold qgo qbi;rw [Y];rfl
     refine hd9 ?_ d p l m U Y f j hE;clear d p l m U Y f j hE;intro ab x t q al aq R ad u;go_wp2_with fail;refine q.o.mono ?_;rintro e w1 ⟨rfl,g⟩;have g:=g.symm;subst g;go_wp2_with fail;go_ret;exact⟨by rw [u.o];rfl,rfl⟩
    |true=>
     rw [U]at m p;refine hd7 ?_ d p l m U f j;clear d p l m U f j;intro ab x t q al R ad;cases dg
     all_goals go_wp2_with fail
     all_goals refine q.o.mono ?_
     all_goals (rintro e w1 ⟨rfl,g⟩;have g:=g.symm;subst g)
     all_goals go_wp2_with fail
     all_goals go_roundw
     all_goals (first |exact⟨k+1,xz,by go_num,by rw [t.o];rfl,by trivial,x.o⟩ |(simp [intOf];omega))
   ·obtain rfl:k=s.size:=by omega
    rw [yw (by rw [qii];omega)]at f⊢;have hW:qbi s=true:=by unfold qbi;rw [f,zS h1,zS h2];rfl
    have h0:0<s.size:=xz
    have d:=qfg s h0;have X:qd7 s=((s[0].toNat:Nat):Int):=by
     unfold qd7;cases hb:qb9 s with
     |nil=>rw [hb] at d;simp at d
     |cons c r=>rw [hb] at d;simpa using d
    obtain⟨y,v⟩: ∃c:Int,((s[0].toNat:Nat):Int)=c:=⟨_,rfl⟩;obtain⟨dg,j⟩: ∃b,((qb9 s).all fun c=>decide (c<=57))=b:=⟨_,rfl⟩;have aa:=qjd hW;have ai:48<=y/\y<=122:=by
     rw [X,v]at aa;simp only [qbx,qfv,qe2,qh8,y8,zV,zT]at aa;omega
    have aH:wrap32 ((s[0].toNat:Nat):Int)=y:=by rw [v];exact IntWalk.wrap32_in _ xz
    obtain⟨i1,an⟩: ∃b,(s.toList== [105,110,112,117,116])=b:=⟨_,rfl⟩;obtain⟨i2,ao⟩: ∃b,(s.toList== [111,117,116,112,117,116])=b:=⟨_,rfl⟩;obtain⟨i3,ap⟩: ∃b,(s.toList== [110,111,116])=b:=⟨_,rfl⟩;have j1:(s=qf9)=(i1=true):=by
     rw [←an];have e:qf9.toList= [105,110,112,117,116]:=wA
     rw [←e];exact qf8 s qf9
    have j2:(s=qe0)=(i2=true):=by
     rw [←ao];have e:qe0.toList= [111,117,116,112,117,116]:=wA
     rw [←e];exact qf8 s qe0
    have j3:(s=qjc)=(i3=true):=by
     rw [←ap];have e:qjc.toList= [110,111,116]:=wA
     rw [←e];exact qf8 s qjc
    have hK:qgo s=(if 48<=y/\y<=57 then (if dg=true then 3 else 0) else if 65<=y/\y<=90 then 2 else if y=95 then 0 else if i1=true then 5 else if i2=true then 6 else if i3=true then 7 else 1):=by
     unfold qgo;rw [hW,X,v,j];simp only [yg,j1,j2,j3,qh8,qe2,zV,zT]
    clear aa j1 j2 j3;rw [j];have aG:(0:Int)<s.size:=xz
    clear hW d X f j ah hk v;refine hd2 ?_ hK ai;clear hK ai;intro ak ar;go_wp2_with fail
    all_goals go_ret
    all_goals (refine⟨?_,rfl⟩;rw [ak.o];refine yM (fun z=>Ending.returned (Value.int .i64 z)) ?_;(try simp only [xB,yZ] at*);repeat' split)
    all_goals (first |rfl |omega |(simp_all;done) |(simp_all;omega))
 ·have hE:qgo s=0:=by
   unfold qgo qbi;rw [zF];intro h;rw [zV,zV,zT,zT]at h;exact hw h.2
  refine hd1 ?_ hE;clear hE;intro u;rcases yX s.size 1 with h1 |h1
  ·have g1:(s.size:Int)<1:=by omega
   clear hw h1
   go_enter Tryz.func130,Tryz.ntmps130
   go_wp2_with fail;go_ret;exact⟨by rw [u.o];rfl,rfl⟩
  ·have g1: ¬(s.size:Int)<1:=by omega
   have g2:64<(s.size:Int):=xz
   clear hw h1
   go_enter Tryz.func130,Tryz.ntmps130
   go_wp2_with fail;go_ret;exact⟨by rw [u.o];rfl,rfl⟩
theorem qnc (s:ByteArray)(w:World):Calls prog 88 #[.string s] w fun e w'=>e=.returned (.bool (qdi s))/\w'=w:=by
 have h:=qoz s w;have g:=qw7 s;obtain⟨k,b⟩:=ex (qgo s);rw [b]at h g;refine hd3 ?_ h g b;clear h g b;intro f d i
 go_enter Tryz.func88,Tryz.ntmps88
 go_wp2_with fail;refine f.o.mono ?_;rintro e j ⟨rfl,c⟩;have c:=c.symm;subst c;go_wp2_with fail;go_ret;exact⟨by rw [←d.o];rfl,rfl⟩
theorem qw8 (s:ByteArray)(w:World):Calls prog 272 #[.string s] w fun e w'=>e=.returned (.bool (qg9 s))/\w'=w:=by
 have h:=qoz s w;have g:=qzi s;obtain⟨k,b⟩:=ex (qgo s);rw [b]at h g;refine hd3 ?_ h g b;clear h g b;intro f d i
 go_enter Tryz.func272,Tryz.ntmps272
 go_wp2_with fail;refine f.o.mono ?_;rintro e j ⟨rfl,c⟩;have c:=c.symm;subst c;go_wp2_with fail;go_ret;exact⟨by rw [←d.o];rfl,rfl⟩
theorem qme (s:ByteArray):decide ((s.size:Int)<=1024)=qga s:=by unfold qga;rw [yi];omega
theorem qsw (s:ByteArray)(w:World):Calls prog 273 #[.string s] w fun e w'=>e=.returned (.bool (qga s))/\w'=w:=by
 rw [←qme]
 go_enter Tryz.func273,Tryz.ntmps273
 go_wp2_with fail;go_ret;exact⟨rfl,rfl⟩
theorem q38 {s:ByteArray}(h:0<s.size):((s[0].toNat:Nat):Int)=qd7 s:=by
 have b:=qfg s h;unfold qd7;cases d:qb9 s with
 |nil=>rw [d] at b;simp at b
 |cons c r=>rw [d] at b;simpa using b.symm
def qbv {α:Type}(p:α->Bool):List α->Int
 | []=> -1
 |x::r=>if p x then 0 else (if qbv p r<0 then-1 else qbv p r+1)
theorem qfe {α:Type}(p:α->Bool): ∀(l:List α),l.any p=false->qbv p l= -1
 | [],_=>rfl
 |x::r,h=>by
  simp only [any_cons,xE]at h;have ih:=qfe p r h.2;simp [qbv,h.1,ih]
theorem qff {α:Type}(p:α->Bool): ∀(l:List α) (k:Nat) (x:α),l[k]?=some x->(l.take k).any p=false->p x=true->qbv p l=(k:Int)
 | [],k,x,h,_,_=>by simp at h
 |y::r,0,x,h,_,hp=>by
  simp only [getElem?_cons_zero,yb]at h;subst h;simp [qbv,hp]
 |y::r,k+1,x,h,hn,hp=>by
  simp only [getElem?_cons_succ]at h;simp only [take_succ_cons,any_cons,xE]at hn;have ih:=qff p r k x h hn.2 hp;simp only [qbv,hn.1,ih];have b: ¬((k:Int)<0):=xz
  simp [b]
theorem qe5 {α:Type}(p:α->Bool): ∀(l:List α),decide (0<=qbv p l)=l.any p
 | []=>rfl
 |x::r=>by
  have ih:=qe5 p r;have e:qbv p (x::r)=if p x=true then 0 else (if qbv p r<0 then-1 else qbv p r+1):=rfl
  rw [e,any_cons,←ih];by_cases b:p x=true
  ·rw [zI b,b];rfl
  ·rw [zF b,xt]at*;rw [b,xG,yi];split<;>omega
theorem qw9 {α:Type}(p:α->Bool)(l:List α):(decide (qbv p l≥0))=l.any p:=qe5 p l
theorem qje {α:Type}(p:α->Bool)(l:List α){k:Nat}{c:α}(h:l[k]?=some c):(l.take (k+1)).any p=((l.take k).any p ||p c):=by
 rw [zh,h,any_append];simp
theorem qsx {gf:Nat}{bs lb:Array Value}(eg: ∀args w,(callFunc gf args).run prog w=.ok (.enter gf args) w)(p:TermD->Bool)(n0:Nat)(v:Value)(xs:List (TermD))(w:World)(hx:qad n0 w v xs)(hn:n0<=w.heap.size)
  (hf: ∀x,x∈xs-> ∀W,Keep (fun b=>b<w.heap.size) w W->Calls prog gf (bs.push (.agg #[.bool x.var,.string x.text])++lb) W fun e w'=>e=.returned (.bool (p x))/\Keep (fun b=>b<W.heap.size) W w'):
  Calls prog 203 #[v,.func (.func gf) bs lb] w fun e w'=>e=.returned (.int .i64 (qbv p xs))/\Keep (fun b=>b<w.heap.size) w w':=by
 obtain⟨a,cap,rfl,ab,Y,t⟩:=id hx;refine hd2 ?_ t hf;clear t hf;intro q z
 go_enter Tryz.func203,Tryz.ntmps203
 go_wp2_with fail
 go_loopw [8] (fun i wr=> ∃k:Nat,k<=xs.length/\i=.int .i64 (k:Int)/\Keep (fun b=>b<w.heap.size) w wr/\(xs.take k).any p=false) (fun i _=>xs.length-(intOf i).toNat)
 case atStart=>exact⟨0,xz,rfl,Keep.refl _ _,rfl⟩
 case round=>
  obtain⟨k,hk,rfl,hK,c⟩:=hrel;have am:=hK.size;by_cases U:k<xs.length
  ·have ad:(k:Int)<xs.length:=by omega
   have al:(0:Int)<=k:=xz
   obtain⟨x,g⟩: ∃x,xs[k]?=some x:=⟨_,zB U⟩;obtain⟨b,o,rfl,hb,q0,q1⟩:=q.o k x g;have h0:=hK.cell (q0) (show b<w.heap.size from xz);have h1:=hK.cell (q1) (show b<w.heap.size from xz)
   try simp only [yA,Nat.add_zero] at h0 h1
   have ak:b<wr.heap.size:=xz
   have h:=qje p xs g;rw [c,xG]at h;have R:=z.o x (zH g) wr hK;obtain⟨px,m⟩: ∃b,p x=b:=⟨_,rfl⟩;have d:=qff p xs k x g c;rw [m]at h R d
   skip
   clear g q0 q1;refine hd6 ?_ hK c h m R d;clear hK c h m R d;intro l u r X y f;go_wp2_with fail;refine y.o.mono ?_;rintro e W1 ⟨rfl,k1⟩;have s:=l.o.trans (k1.mono fun b hb _=>xz);clear k1;refine hd1 ?_ s;clear s;intro j;cases px
   ·go_wp2_with fail;go_roundw
    case rel=>exact⟨k+1,xz,by go_num,j.o,r.o⟩
    case measure=>simp [intOf];omega
   ·go_wp2_with fail;go_ret;exact⟨by rw [f.o (by trivial)];rfl,j.o⟩
  ·obtain rfl:k=xs.length:=by omega
   rw [zi]at c;have d:=qfe p xs c;refine hd2 ?_ hK d;clear hK d;intro l f;go_wp2_with fail;go_ret;exact⟨by rw [f.o];rfl,l.o⟩
theorem qht {gf:Nat}{bs lb:Array Value}(m: ∀args w,(callFunc gf args).run prog w=.ok (.enter gf args) w)(p:TermD->Bool)(n0:Nat)(v:Value)(xs:List (TermD))(w:World)(s:qad n0 w v xs)(y:n0<=w.heap.size)
  (k: ∀x,x∈xs-> ∀W,Keep (fun b=>b<w.heap.size) w W->Calls prog gf (bs.push (.agg #[.bool x.var,.string x.text])++lb) W fun e w'=>e=.returned (.bool (p x))/\Keep (fun b=>b<W.heap.size) W w'):
  Calls prog 149 #[v,.func (.func gf) bs lb] w fun e w'=>e=.returned (.bool (xs.any p))/\Keep (fun b=>b<w.heap.size) w w':=by
 have hi:=qsx m p n0 v xs w s y k;have h:=qe5 p xs;obtain⟨i,c⟩:=ex (qbv p xs);rw [c]at hi h;obtain⟨a,cap,rfl,r,q,j⟩:=id s;clear j m;refine hd4 ?_ hi k h c;clear hi k h c;intro f u d l
 go_enter Tryz.func149,Tryz.ntmps149
 go_wp2_with fail;refine f.o.mono ?_;rintro e W1 ⟨rfl,t⟩;refine hd1 ?_ t;clear t;intro g;go_wp2_with fail;go_ret;exact⟨by rw [←d.o];rfl,g.o⟩
theorem qig {n:Nat}{w w':World}{v:Value}{ss:List Int}(h:qan n w v ss)(hK:Keep (fun k=>k<n) w w'):qan n w' v ss:=h.mono fun _ _ _ b h=>hK.cell h b
theorem qd2 {n:Nat}{w w':World}{v:Value}{ss:List ByteArray}(h:qal n w v ss)(hK:Keep (fun k=>k<n) w w'):qal n w' v ss:=h.mono fun _ _ _ b h=>hK.cell h b
def qd0 (L:LitD)(sa:Value):Value:=.agg #[.int .i64 L.kind,.string L.atom.pred,sa,.bool L.left.var,.string L.left.text,.bool L.right.var,.string L.right.text]
structure qaj where
 pred:ByteArray
 rows:Int
 dist:List Int
 deriving DecidableEq,Inhabited
def qk2 (s:qaj)(sv:Value):Value:=.agg #[.string s.pred,.int .i64 s.rows,sv]
def q29 (n:Nat)(w:World)(b o:Nat)(s:qaj):Prop:= ∃sv,CellsE w b o [.string s.pred,.int .i64 s.rows,sv]/\qan n w sv s.dist
abbrev SizesIn (n:Nat)(w:World)(v:Value)(ss:List qaj):Prop:=SliceIn n w 3 (q29 n) v ss
theorem SizesIn.keep {n:Nat}{w w':World}{v:Value}{ss:List qaj}(h:SizesIn n w v ss)(hK:Keep (fun k=>k<n) w w'):SizesIn n w' v ss:=
 h.mono fun b o s hb ⟨sv,h1,h2⟩=>⟨sv,fun j v c=>hK.cell (h1 j v c) hb,qig h2 hK⟩
theorem qus {gf:Nat}{bs lb:Array Value}(eg: ∀args w,(callFunc gf args).run prog w=.ok (.enter gf args) w)(p:LitD->Bool)(n0:Nat)(v:Value)(xs:List (LitD))(w:World)(hx:qfj n0 w v xs)(hn:n0<=w.heap.size)
  (hf: ∀x,x∈xs-> ∀W,Keep (fun b=>b<w.heap.size) w W-> ∀sa,qad n0 W sa x.atom.args->Calls prog gf (bs.push (qd0 x sa)++lb) W fun e w'=>e=.returned (.bool (p x))/\Keep (fun b=>b<W.heap.size) W w'):
  Calls prog 152 #[v,.func (.func gf) bs lb] w fun e w'=>e=.returned (.int .i64 (qbv p xs))/\Keep (fun b=>b<w.heap.size) w w':=by
 obtain⟨a,cap,rfl,ae,ab,y⟩:=id hx;refine hd2 ?_ y hf;clear y hf;intro s X
 go_enter Tryz.func152,Tryz.ntmps152
 go_wp2_with fail
 go_loopw [8] (fun i wr=> ∃k:Nat,k<=xs.length/\i=.int .i64 (k:Int)/\Keep (fun b=>b<w.heap.size) w wr/\(xs.take k).any p=false) (fun i _=>xs.length-(intOf i).toNat)
 case atStart=>exact⟨0,xz,rfl,Keep.refl _ _,rfl⟩
 case round=>
  obtain⟨k,hk,rfl,hK,c⟩:=hrel;have au:=hK.size;by_cases Y:k<xs.length
  ·have af:(k:Int)<xs.length:=by omega
   have ar:(0:Int)<=k:=xz
   obtain⟨x,g⟩: ∃x,xs[k]?=some x:=⟨_,zB Y⟩;obtain⟨b,o,rfl,hb,sa,m,qt⟩:=s.o k x g;have h0:=hK.cell (m 0 _ rfl) (show b<w.heap.size from xz);have h1:=hK.cell (m 1 _ rfl) (show b<w.heap.size from xz);have h2:=hK.cell (m 2 _ rfl) (show b<w.heap.size from xz);have h3:=hK.cell (m 3 _ rfl) (show b<w.heap.size from xz);have h4:=hK.cell (m 4 _ rfl) (show b<w.heap.size from xz);have h5:=hK.cell (m 5 _ rfl) (show b<w.heap.size from xz);have h6:=hK.cell (m 6 _ rfl) (show b<w.heap.size from xz)
   try simp only [yA,Nat.add_zero] at h0 h1 h2 h3 h4 h5 h6
   have aq:b<wr.heap.size:=xz
   have j:=qje p xs g;rw [c,xG]at j;have z:=X.o x (zH g) wr hK sa (qq qt (hK.mono fun b _ h=>xz));obtain⟨px,r⟩: ∃b,p x=b:=⟨_,rfl⟩;have d:=qff p xs k x g c;rw [r]at j z d;unfold qd0 at z;clear g m qt;refine hd6 ?_ hK c j r z d;clear hK c j r z d;intro q R t aa U f;go_wp2_with fail;refine U.o.mono ?_;rintro e W1 ⟨rfl,k1⟩;have u:=q.o.trans (k1.mono fun b hb _=>xz);clear k1;refine hd1 ?_ u;clear u;intro l;cases px
   ·go_wp2_with fail;go_roundw
    case rel=>exact⟨k+1,xz,by go_num,l.o,t.o⟩
    case measure=>simp [intOf];omega
   ·go_wp2_with fail;go_ret;exact⟨by rw [f.o (by trivial)];rfl,l.o⟩
  ·obtain rfl:k=xs.length:=by omega
   rw [zi]at c;have d:=qfe p xs c;refine hd2 ?_ hK d;clear hK d;intro q f;go_wp2_with fail;go_ret;exact⟨by rw [f.o];rfl,q.o⟩
theorem qj6 {gf:Nat}{bs lb:Array Value}(m: ∀args w,(callFunc gf args).run prog w=.ok (.enter gf args) w)(p:LitD->Bool)(n0:Nat)(v:Value)(xs:List (LitD))(w:World)(s:qfj n0 w v xs)(y:n0<=w.heap.size)
  (k: ∀x,x∈xs-> ∀W,Keep (fun b=>b<w.heap.size) w W-> ∀sa,qad n0 W sa x.atom.args->Calls prog gf (bs.push (qd0 x sa)++lb) W fun e w'=>e=.returned (.bool (p x))/\Keep (fun b=>b<W.heap.size) W w'):
  Calls prog 107 #[v,.func (.func gf) bs lb] w fun e w'=>e=.returned (.bool (xs.any p))/\Keep (fun b=>b<w.heap.size) w w':=by
 have hi:=qus m p n0 v xs w s y k;have h:=qe5 p xs;obtain⟨i,c⟩:=ex (qbv p xs);rw [c]at hi h;obtain⟨a,cap,rfl,r,q,j⟩:=id s;clear j m;refine hd4 ?_ hi k h c;clear hi k h c;intro f u d l
 go_enter Tryz.func107,Tryz.ntmps107
 go_wp2_with fail;refine f.o.mono ?_;rintro e W1 ⟨rfl,t⟩;refine hd1 ?_ t;clear t;intro g;go_wp2_with fail;go_ret;exact⟨by rw [←d.o];rfl,g.o⟩
theorem qmf {gf:Nat}{bs lb:Array Value}(eg: ∀args w,(callFunc gf args).run prog w=.ok (.enter gf args) w)(p:qaj->Bool)(n0:Nat)(v:Value)(xs:List (qaj))(w:World)(hx:SizesIn n0 w v xs)(hn:n0<=w.heap.size)
  (hf: ∀x,x∈xs-> ∀W,Keep (fun b=>b<w.heap.size) w W-> ∀sv,qan n0 W sv x.dist->Calls prog gf (bs.push (qk2 x sv)++lb) W fun e w'=>e=.returned (.bool (p x))/\Keep (fun b=>b<W.heap.size) W w'):
  Calls prog 243 #[v,.func (.func gf) bs lb] w fun e w'=>e=.returned (.int .i64 (qbv p xs))/\Keep (fun b=>b<w.heap.size) w w':=by
 obtain⟨a,cap,rfl,ae,ab,u⟩:=id hx;refine hd2 ?_ u hf;clear u hf;intro r X
 go_enter Tryz.func243,Tryz.ntmps243
 go_wp2_with fail
 go_loopw [8] (fun i wr=> ∃k:Nat,k<=xs.length/\i=.int .i64 (k:Int)/\Keep (fun b=>b<w.heap.size) w wr/\(xs.take k).any p=false) (fun i _=>xs.length-(intOf i).toNat)
 case atStart=>exact⟨0,xz,rfl,Keep.refl _ _,rfl⟩
 case round=>
  obtain⟨k,hk,rfl,hK,c⟩:=hrel;have ao:=hK.size;by_cases Y:k<xs.length
  ·have af:(k:Int)<xs.length:=by omega
   have an:(0:Int)<=k:=xz
   obtain⟨x,g⟩: ∃x,xs[k]?=some x:=⟨_,zB Y⟩;obtain⟨b,o,rfl,hb,sv,z,qt⟩:=r.o k x g;have h0:=hK.cell (z 0 _ rfl) (show b<w.heap.size from xz);have h1:=hK.cell (z 1 _ rfl) (show b<w.heap.size from xz);have h2:=hK.cell (z 2 _ rfl) (show b<w.heap.size from xz)
   try simp only [yA,Nat.add_zero] at h0 h1 h2
   have am:b<wr.heap.size:=xz
   have j:=qje p xs g;rw [c,xG]at j;have y:=X.o x (zH g) wr hK sv (qig qt (hK.mono fun b _ h=>xz));obtain⟨px,q⟩: ∃b,p x=b:=⟨_,rfl⟩;have d:=qff p xs k x g c;rw [q]at j y d;unfold qk2 at y;clear g z qt;refine hd6 ?_ hK c j q y d;clear hK c j q y d;intro m R s aa U f;go_wp2_with fail;refine U.o.mono ?_;rintro e W1 ⟨rfl,k1⟩;have t:=m.o.trans (k1.mono fun b hb _=>xz);clear k1;refine hd1 ?_ t;clear t;intro l;cases px
   ·go_wp2_with fail;go_roundw
    case rel=>exact⟨k+1,xz,by go_num,l.o,s.o⟩
    case measure=>simp [intOf];omega
   ·go_wp2_with fail;go_ret;exact⟨by rw [f.o (by trivial)];rfl,l.o⟩
  ·obtain rfl:k=xs.length:=by omega
   rw [zi]at c;have d:=qfe p xs c;refine hd2 ?_ hK d;clear hK d;intro m f;go_wp2_with fail;go_ret;exact⟨by rw [f.o];rfl,m.o⟩
theorem qsy {gf:Nat}{bs lb:Array Value}(m: ∀args w,(callFunc gf args).run prog w=.ok (.enter gf args) w)(p:qaj->Bool)(n0:Nat)(v:Value)(xs:List (qaj))(w:World)(s:SizesIn n0 w v xs)(y:n0<=w.heap.size)
  (k: ∀x,x∈xs-> ∀W,Keep (fun b=>b<w.heap.size) w W-> ∀sv,qan n0 W sv x.dist->Calls prog gf (bs.push (qk2 x sv)++lb) W fun e w'=>e=.returned (.bool (p x))/\Keep (fun b=>b<W.heap.size) W w'):
  Calls prog 256 #[v,.func (.func gf) bs lb] w fun e w'=>e=.returned (.bool (xs.any p))/\Keep (fun b=>b<w.heap.size) w w':=by
 have hi:=qmf m p n0 v xs w s y k;have h:=qe5 p xs;obtain⟨i,c⟩:=ex (qbv p xs);rw [c]at hi h;obtain⟨a,cap,rfl,r,q,j⟩:=id s;clear j m;refine hd4 ?_ hi k h c;clear hi k h c;intro f u d l
 go_enter Tryz.func256,Tryz.ntmps256
 go_wp2_with fail;refine f.o.mono ?_;rintro e W1 ⟨rfl,t⟩;refine hd1 ?_ t;clear t;intro g;go_wp2_with fail;go_ret;exact⟨by rw [←d.o];rfl,g.o⟩
theorem qut {gf:Nat}{bs lb:Array Value}(eg: ∀args w,(callFunc gf args).run prog w=.ok (.enter gf args) w)(p:Int->Bool)(n0:Nat)(v:Value)(xs:List (Int))(w:World)(hx:qan n0 w v xs)(hn:n0<=w.heap.size)
  (hf: ∀x,x∈xs-> ∀W,Keep (fun b=>b<w.heap.size) w W->Calls prog gf (bs.push (.int .i64 x)++lb) W fun e w'=>e=.returned (.bool (p x))/\Keep (fun b=>b<W.heap.size) W w'):
  Calls prog 267 #[v,.func (.func gf) bs lb] w fun e w'=>e=.returned (.int .i64 (qbv p xs))/\Keep (fun b=>b<w.heap.size) w w':=by
 obtain⟨a,cap,rfl,ab,Y,t⟩:=id hx;refine hd2 ?_ t hf;clear t hf;intro q z
 go_enter Tryz.func267,Tryz.ntmps267
 go_wp2_with fail
 go_loopw [8] (fun i wr=> ∃k:Nat,k<=xs.length/\i=.int .i64 (k:Int)/\Keep (fun b=>b<w.heap.size) w wr/\(xs.take k).any p=false) (fun i _=>xs.length-(intOf i).toNat)
 case atStart=>exact⟨0,xz,rfl,Keep.refl _ _,rfl⟩
 case round=>
  obtain⟨k,hk,rfl,hK,c⟩:=hrel;have ak:=hK.size;by_cases U:k<xs.length
  ·have ad:(k:Int)<xs.length:=by omega
   have aj:(0:Int)<=k:=xz
   obtain⟨x,g⟩: ∃x,xs[k]?=some x:=⟨_,zB U⟩;obtain⟨b,o,rfl,hb,q0⟩:=q.o k x g;have h0:=hK.cell (q0) (show b<w.heap.size from xz)
   try simp only [yA,Nat.add_zero] at h0
   have ai:b<wr.heap.size:=xz
   have h:=qje p xs g;rw [c,xG]at h;have R:=z.o x (zH g) wr hK;obtain⟨px,m⟩: ∃b,p x=b:=⟨_,rfl⟩;have d:=qff p xs k x g c;rw [m]at h R d
   skip
   clear g q0;refine hd6 ?_ hK c h m R d;clear hK c h m R d;intro l u r X y f;go_wp2_with fail;refine y.o.mono ?_;rintro e W1 ⟨rfl,k1⟩;have s:=l.o.trans (k1.mono fun b hb _=>xz);clear k1;refine hd1 ?_ s;clear s;intro j;cases px
   ·go_wp2_with fail;go_roundw
    case rel=>exact⟨k+1,xz,by go_num,j.o,r.o⟩
    case measure=>simp [intOf];omega
   ·go_wp2_with fail;go_ret;exact⟨by rw [f.o (by trivial)];rfl,j.o⟩
  ·obtain rfl:k=xs.length:=by omega
   rw [zi]at c;have d:=qfe p xs c;refine hd2 ?_ hK d;clear hK d;intro l f;go_wp2_with fail;go_ret;exact⟨by rw [f.o];rfl,l.o⟩
theorem quu {gf:Nat}{bs lb:Array Value}(m: ∀args w,(callFunc gf args).run prog w=.ok (.enter gf args) w)(p:Int->Bool)(n0:Nat)(v:Value)(xs:List (Int))(w:World)(s:qan n0 w v xs)(y:n0<=w.heap.size)
  (k: ∀x,x∈xs-> ∀W,Keep (fun b=>b<w.heap.size) w W->Calls prog gf (bs.push (.int .i64 x)++lb) W fun e w'=>e=.returned (.bool (p x))/\Keep (fun b=>b<W.heap.size) W w'):
  Calls prog 258 #[v,.func (.func gf) bs lb] w fun e w'=>e=.returned (.bool (xs.any p))/\Keep (fun b=>b<w.heap.size) w w':=by
 have hi:=qut m p n0 v xs w s y k;have h:=qe5 p xs;obtain⟨i,c⟩:=ex (qbv p xs);rw [c]at hi h;obtain⟨a,cap,rfl,r,q,j⟩:=id s;clear j m;refine hd4 ?_ hi k h c;clear hi k h c;intro f u d l
 go_enter Tryz.func258,Tryz.ntmps258
 go_wp2_with fail;refine f.o.mono ?_;rintro e W1 ⟨rfl,t⟩;refine hd1 ?_ t;clear t;intro g;go_wp2_with fail;go_ret;exact⟨by rw [←d.o];rfl,g.o⟩
end Go.Proofs.P16
