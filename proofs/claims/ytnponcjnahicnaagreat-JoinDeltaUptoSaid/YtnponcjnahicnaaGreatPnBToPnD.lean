/- Parts of the proof. -/
import Derived.Test.YtnponcjnahicnaaGreatRelTToPnA
set_option linter.unusedSimpArgs false
set_option linter.unusedVariables false
set_option maxRecDepth 100000
set_option maxHeartbeats 2000000
open Go.Proofs.Tryz(prog)
open List(all_cons any_append any_cons getElem?_cons_succ getElem?_cons_zero take_succ_cons)
namespace Go.Proofs.P16
open Go.RowKit Go.Ink
attribute [local go_sem] Oper.semAt_some
theorem qig {a b:ByteArray}(h:a=b):(a.toList==b.toList)=true:=by simp [h]
theorem qgp {a b:ByteArray}(h:a≠b):(a.toList==b.toList)=false:=by
 rw [←beq_toListBytes];exact y9.2 h
theorem qg6 (a b:ByteArray):(a=b)=((a.toList==b.toList)=true):=by
 rw [←beq_toListBytes,xE]
def qg7:ByteArray:=⟨#[105,110,112,117,116]⟩
def qfy:ByteArray:=⟨#[111,117,116,112,117,116]⟩
def qka:ByteArray:=⟨#[110,111,116]⟩
def qe6 (s:ByteArray):Int:=(qcv s).headD 0
def qev (s:ByteArray):Bool:=decide (s=qg7) ||decide (s=qfy) ||decide (s=qka)
def qdq (s:ByteArray):Bool:=qb0 s&&qcy (qe6 s)&&!qev s
def qh0 (s:ByteArray):Bool:=qb0 s&&qct (qe6 s)
def qg8 (s:ByteArray):Bool:=decide (s.size<=1024)
def qhd (s:ByteArray):Int:=
 if qb0 s then
  if qfs (qe6 s) then (if (qcv s).all (fun c=>decide (c<=57)) then 3 else 0)
  else if qct (qe6 s) then 2
  else if qe6 s=95 then 0
  else if s=qg7 then 5 else if s=qfy then 6 else if s=qka then 7 else 1
 else 0
theorem qkb {s:ByteArray}(h:qb0 s=true):qa7 (qe6 s)=true:=by
 unfold qb0 at h;rw [zV,zV,zT,zT]at h;have b:=qjd s;unfold qe6;cases d:qcv s with
 |nil=>rw [d] at b;simp at b;omega
 |cons c r=>rw [d] at h;simp only [all_cons,zV] at h;exact h.1.1
theorem qzu (s:ByteArray):decide (qhd s=1)=qdq s:=by
 unfold qhd qdq qev;cases h:qb0 s with
 |false=>simp
 |true=>
  have g:=qkb h;simp only [yj,yW];generalize qe6 s=c at g;simp only [qa7,qcy,qct,qfs,ya,zV,zT]at g⊢;by_cases b:s=qg7
  ·rw [zI b];simp only [b,decide_true,Bool.true_or,Bool.not_true,yP];repeat' split
   all_goals simp
  ·by_cases d:s=qfy
   ·rw [zF b,zI d];simp only [d,decide_true,Bool.true_or,Bool.or_true,Bool.not_true,yP];repeat' split
    all_goals simp
   ·by_cases e:s=qka
    ·rw [zF b,zF d,zI e];simp only [e,decide_true,Bool.true_or,Bool.or_true,Bool.not_true,yP];repeat' split
     all_goals simp
    ·rw [zF b,zF d,zF e];simp only [b,d,e,decide_false,Bool.or_self,Bool.not_false,xM];rw [yx];simp only [zV,zT]
     repeat' split
     all_goals omega
theorem q2j (s:ByteArray):decide (qhd s=2)=qh0 s:=by
 unfold qhd qh0;cases d:qb0 s with
 |false=>simp
 |true=>
  have b:=qkb d;simp only [yj,yW];generalize qe6 s=c at b;simp only [qa7,qcy,qct,qfs,ya,zV,zT]at b⊢;rw [yx];simp only [zV,zT]
  repeat' split
  all_goals omega
theorem qqr (s:ByteArray)(w:World):Calls prog 90 #[.string s] w fun e w'=>e=.returned (.int .i64 (qhd s))/\w'=w:=by
 by_cases hw:1<=s.size/\s.size<=64
 ·obtain⟨h1,h2⟩:=hw;have g1: ¬(s.size:Int)<1:=by omega
  have g2: ¬64<(s.size:Int):=wC
  go_enter Tryz.func90,Tryz.ntmps90
  go_wp2_with fail
  go_loopw [16,3] (fun i dg wr=> ∃k:Nat,k<=s.size/\i=.int .i64 (k:Int)/\dg=.bool (((qcv s).take k).all fun c=>decide (c<=57))/\wr=w/\((qcv s).take k).all qa7=true) (fun i _ _=>s.size-(intOf i).toNat)
  case atStart=>exact⟨0,wC,rfl,rfl,rfl,rfl⟩
  case round=>
   obtain⟨k,hk,rfl,rfl,l,g⟩:=hrel;have l:=l.symm;subst l;by_cases ai:k<s.size
   ·have av:(k:Int)<s.size:=by omega
    have aH:(0:Int)<=k:=wC
    have d:=qgg s ai;have t:=qh5 qa7 (qcv s) d;have p:=qh5 (fun c=>decide (c<=57)) (qcv s) d;rw [g,yW]at t;obtain⟨dg,m⟩: ∃b,(((qcv s).take k).all fun c=>decide (c<=57))=b:=⟨_,rfl⟩;rw [m]at p;rw [m];have q:=qxl ((s[k].toNat:Nat):Int) w;cases hc:qa7 ((s[k].toNat:Nat):Int) with
    |false=>
     rw [hc]at q;have X:=qjy qa7 _ d hc;have hE:qhd s=0:=by unfold qhd qb0;rw [X];rfl
     refine hd9 ?_ d t p q hc X g m hE;clear d t p q hc X g m hE;intro aj U v u an az ab ak x;go_wp2_with fail;refine u.o.mono ?_;rintro e w1 ⟨rfl,l⟩;have l:=l.symm;subst l;go_wp2_with fail;go_ret;exact⟨by rw [x.o];rfl,rfl⟩
    |true=>
     rw [hc]at q t;refine hd7 ?_ d t p q hc g m;clear d t p q hc g m;intro aj U v u an ab ak;cases dg
     all_goals go_wp2_with fail
     all_goals refine u.o.mono ?_
     all_goals (rintro e w1 ⟨rfl,l⟩;have l:=l.symm;subst l)
     all_goals go_wp2_with fail
     all_goals go_roundw
     all_goals (first |exact⟨k+1,wC,by go_num,by rw [v.o];rfl,by trivial,U.o⟩ |(simp [intOf];omega))
   ·obtain rfl:k=s.size:=by omega
    rw [yz (by rw [qjd];omega)]at g⊢;have hW:qb0 s=true:=by unfold qb0;rw [g,zS h1,zS h2];rfl
    have h0:0<s.size:=wC
    have d:=qgg s h0;have Y:qe6 s=((s[0].toNat:Nat):Int):=by
     unfold qe6;cases hb:qcv s with
     |nil=>rw [hb] at d;simp at d
     |cons c r=>rw [hb] at d;simpa using d
    obtain⟨R,y⟩: ∃c:Int,((s[0].toNat:Nat):Int)=c:=⟨_,rfl⟩;obtain⟨dg,m⟩: ∃b,((qcv s).all fun c=>decide (c<=57))=b:=⟨_,rfl⟩;have aa:=qkb hW;have ah:48<=R/\R<=122:=by
     rw [Y,y]at aa;simp only [qa7,qcy,qct,qfs,ya,zV,zT]at aa;omega
    have aM:wrap32 ((s[0].toNat:Nat):Int)=R:=by rw [y];exact IntWalk.wrap32_in _ wC
    obtain⟨i1,ap⟩: ∃b,(s.toList== [105,110,112,117,116])=b:=⟨_,rfl⟩;obtain⟨i2,am⟩: ∃b,(s.toList== [111,117,116,112,117,116])=b:=⟨_,rfl⟩;obtain⟨i3,ar⟩: ∃b,(s.toList== [110,111,116])=b:=⟨_,rfl⟩;have j1:(s=qg7)=(i1=true):=by
     rw [←ap];have e:qg7.toList= [105,110,112,117,116]:=wD
     rw [←e];exact qg6 s qg7
    have j2:(s=qfy)=(i2=true):=by
     rw [←am];have e:qfy.toList= [111,117,116,112,117,116]:=wD
     rw [←e];exact qg6 s qfy
    have j3:(s=qka)=(i3=true):=by
     rw [←ar];have e:qka.toList= [110,111,116]:=wD
     rw [←e];exact qg6 s qka
    have hK:qhd s=(if 48<=R/\R<=57 then (if dg=true then 3 else 0) else if 65<=R/\R<=90 then 2 else if R=95 then 0 else if i1=true then 5 else if i2=true then 6 else if i3=true then 7 else 1):=by
     unfold qhd;rw [hW,Y,y,m];simp only [yj,j1,j2,j3,qfs,qct,zV,zT]
    clear aa j1 j2 j3;rw [m];have aF:(0:Int)<s.size:=wC
    clear hW d Y g m ai hk y;refine hd2 ?_ hK ah;clear hK ah;intro ao aD;go_wp2_with fail
    all_goals go_ret
    all_goals (refine⟨?_,rfl⟩;rw [ao.o];refine yO (fun z=>Ending.returned (Value.int .i64 z)) ?_;(try simp only [xE,y9] at*);repeat' split)
    all_goals (first |rfl |omega |(simp_all;done) |(simp_all;omega))
 ·have hE:qhd s=0:=by
   unfold qhd qb0;rw [zF];intro h;rw [zV,zV,zT,zT]at h;exact hw h.2
  refine hd1 ?_ hE;clear hE;intro x;rcases y7 s.size 1 with h1 |h1
  ·have g1:(s.size:Int)<1:=by omega
   clear hw h1
   go_enter Tryz.func90,Tryz.ntmps90
   go_wp2_with fail;go_ret;exact⟨by rw [x.o];rfl,rfl⟩
  ·have g1: ¬(s.size:Int)<1:=by omega
   have g2:64<(s.size:Int):=wC
   clear hw h1
   go_enter Tryz.func90,Tryz.ntmps90
   go_wp2_with fail;go_ret;exact⟨by rw [x.o];rfl,rfl⟩
theorem qoz (s:ByteArray)(w:World):Calls prog 51 #[.string s] w fun e w'=>e=.returned (.bool (qdq s))/\w'=w:=by
 have h:=qqr s w;have g:=qzu s;obtain⟨k,b⟩:=ex (qhd s);rw [b]at h g;refine hd3 ?_ h g b;clear h g b;intro l d m
 go_enter Tryz.func51,Tryz.ntmps51
 go_wp2_with fail;refine l.o.mono ?_;rintro e p ⟨rfl,c⟩;have c:=c.symm;subst c;go_wp2_with fail;go_ret;exact⟨by rw [←d.o];rfl,rfl⟩
theorem qzv (s:ByteArray)(w:World):Calls prog 195 #[.string s] w fun e w'=>e=.returned (.bool (qh0 s))/\w'=w:=by
 have h:=qqr s w;have g:=q2j s;obtain⟨k,b⟩:=ex (qhd s);rw [b]at h g;refine hd3 ?_ h g b;clear h g b;intro l d m
 go_enter Tryz.func195,Tryz.ntmps195
 go_wp2_with fail;refine l.o.mono ?_;rintro e p ⟨rfl,c⟩;have c:=c.symm;subst c;go_wp2_with fail;go_ret;exact⟨by rw [←d.o];rfl,rfl⟩
theorem qnp (s:ByteArray):decide ((s.size:Int)<=1024)=qg8 s:=by unfold qg8;rw [yl];omega
theorem quy (s:ByteArray)(w:World):Calls prog 196 #[.string s] w fun e w'=>e=.returned (.bool (qg8 s))/\w'=w:=by
 rw [←qnp]
 go_enter Tryz.func196,Tryz.ntmps196
 go_wp2_with fail;go_ret;exact⟨rfl,rfl⟩
theorem q7m {s:ByteArray}(h:0<s.size):((s[0].toNat:Nat):Int)=qe6 s:=by
 have b:=qgg s h;unfold qe6;cases d:qcv s with
 |nil=>rw [d] at b;simp at b
 |cons c r=>rw [d] at b;simpa using b.symm
def qch {α:Type}(p:α->Bool):List α->Int
 | []=> -1
 |x::r=>if p x then 0 else (if qch p r<0 then-1 else qch p r+1)
theorem qge {α:Type}(p:α->Bool): ∀(l:List α),l.any p=false->qch p l= -1
 | [],_=>rfl
 |x::r,h=>by
  simp only [any_cons,xH]at h;have ih:=qge p r h.2;simp [qch,h.1,ih]
theorem qgf {α:Type}(p:α->Bool): ∀(l:List α) (k:Nat) (x:α),l[k]?=some x->(l.take k).any p=false->p x=true->qch p l=(k:Int)
 | [],k,x,h,_,_=>by simp at h
 |y::r,0,x,h,_,hp=>by
  simp only [getElem?_cons_zero,yd]at h;subst h;simp [qch,hp]
 |y::r,k+1,x,h,hn,hp=>by
  simp only [getElem?_cons_succ]at h;simp only [take_succ_cons,any_cons,xH]at hn;have ih:=qgf p r k x h hn.2 hp;simp only [qch,hn.1,ih];have b: ¬((k:Int)<0):=wC
  simp [b]
theorem qf6 {α:Type}(p:α->Bool): ∀(l:List α),decide (0<=qch p l)=l.any p
 | []=>rfl
 |x::r=>by
  have ih:=qf6 p r;have e:qch p (x::r)=if p x=true then 0 else (if qch p r<0 then-1 else qch p r+1):=rfl
  rw [e,any_cons,←ih];by_cases b:p x=true
  ·rw [zI b,b];rfl
  ·rw [zF b,xw]at*;rw [b,xJ,yl];split<;>omega
theorem qzw {α:Type}(p:α->Bool)(l:List α):(decide (qch p l≥0))=l.any p:=qf6 p l
theorem qkc {α:Type}(p:α->Bool)(l:List α){k:Nat}{c:α}(h:l[k]?=some c):(l.take (k+1)).any p=((l.take k).any p ||p c):=by
 rw [zh,h,any_append];simp
theorem quz {gf:Nat}{bs lb:Array Value}(eg: ∀args w,(callFunc gf args).run prog w=.ok (.enter gf args) w)(p:TermD->Bool)(n0:Nat)(v:Value)(xs:List (TermD))(w:World)(hx:qai n0 w v xs)(hn:n0<=w.heap.size)
  (hf: ∀x,x∈xs-> ∀W,Keep (fun b=>b<w.heap.size) w W->Calls prog gf (bs.push (.agg #[.bool x.var,.string x.text])++lb) W fun e w'=>e=.returned (.bool (p x))/\Keep (fun b=>b<W.heap.size) W w'):
  Calls prog 141 #[v,.func (.func gf) bs lb] w fun e w'=>e=.returned (.int .i64 (qch p xs))/\Keep (fun b=>b<w.heap.size) w w':=by
 obtain⟨a,cap,rfl,ae,ab,t⟩:=id hx;refine hd2 ?_ t hf;clear t hf;intro y R
 go_enter Tryz.func141,Tryz.ntmps141
 go_wp2_with fail
 go_loopw [8] (fun i wr=> ∃k:Nat,k<=xs.length/\i=.int .i64 (k:Int)/\Keep (fun b=>b<w.heap.size) w wr/\(xs.take k).any p=false) (fun i _=>xs.length-(intOf i).toNat)
 case atStart=>exact⟨0,wC,rfl,Keep.refl _ _,rfl⟩
 case round=>
  obtain⟨k,hk,rfl,hK,c⟩:=hrel;have aj:=hK.size;by_cases U:k<xs.length
  ·have aa:(k:Int)<xs.length:=by omega
   have am:(0:Int)<=k:=wC
   obtain⟨x,g⟩: ∃x,xs[k]?=some x:=⟨_,zB U⟩;obtain⟨b,o,rfl,hb,q0,q1⟩:=y.o k x g;have h0:=hK.cell (q0) (show b<w.heap.size from wC);have h1:=hK.cell (q1) (show b<w.heap.size from wC)
   try simp only [yB,Nat.add_zero] at h0 h1
   have ap:b<wr.heap.size:=wC
   have l:=qkc p xs g;rw [c,xJ]at l;have Y:=R.o x (zH g) wr hK;obtain⟨px,r⟩: ∃b,p x=b:=⟨_,rfl⟩;have d:=qgf p xs k x g c;rw [r]at l Y d
   skip
   clear g q0 q1;refine hd6 ?_ hK c l r Y d;clear hK c l r Y d;intro q X u ah z h;go_wp2_with fail;refine z.o.mono ?_;rintro e W1 ⟨rfl,k1⟩;have s:=q.o.trans (k1.mono fun b hb _=>wC);clear k1;refine hd1 ?_ s;clear s;intro m;cases px
   ·go_wp2_with fail;go_roundw
    case rel=>exact⟨k+1,wC,by go_num,m.o,u.o⟩
    case measure=>simp [intOf];omega
   ·go_wp2_with fail;go_ret;exact⟨by rw [h.o (by trivial)];rfl,m.o⟩
  ·obtain rfl:k=xs.length:=by omega
   rw [zi]at c;have d:=qge p xs c;refine hd2 ?_ hK d;clear hK d;intro q h;go_wp2_with fail;go_ret;exact⟨by rw [h.o];rfl,q.o⟩
theorem qih {gf:Nat}{bs lb:Array Value}(r: ∀args w,(callFunc gf args).run prog w=.ok (.enter gf args) w)(p:TermD->Bool)(n0:Nat)(v:Value)(xs:List (TermD))(w:World)(t:qai n0 w v xs)(R:n0<=w.heap.size)
  (q: ∀x,x∈xs-> ∀W,Keep (fun b=>b<w.heap.size) w W->Calls prog gf (bs.push (.agg #[.bool x.var,.string x.text])++lb) W fun e w'=>e=.returned (.bool (p x))/\Keep (fun b=>b<W.heap.size) W w'):
  Calls prog 109 #[v,.func (.func gf) bs lb] w fun e w'=>e=.returned (.bool (xs.any p))/\Keep (fun b=>b<w.heap.size) w w':=by
 have hi:=quz r p n0 v xs w t R q;have m:=qf6 p xs;obtain⟨i,c⟩:=ex (qch p xs);rw [c]at hi m;obtain⟨a,cap,rfl,u,s,d⟩:=id t;clear d r;refine hd4 ?_ hi q m c;clear hi q m c;intro h U g y
 go_enter Tryz.func109,Tryz.ntmps109
 go_wp2_with fail;refine h.o.mono ?_;rintro e W1 ⟨rfl,z⟩;refine hd1 ?_ z;clear z;intro l;go_wp2_with fail;go_ret;exact⟨by rw [←g.o];rfl,l.o⟩
theorem qjb {n:Nat}{w w':World}{v:Value}{ss:List Int}(h:qat n w v ss)(hK:Keep (fun k=>k<n) w w'):qat n w' v ss:=h.mono fun _ _ _ b h=>hK.cell h b
theorem qan {n:Nat}{w w':World}{v:Value}{ss:List ByteArray}(h:qac n w v ss)(hK:Keep (fun k=>k<n) w w'):qac n w' v ss:=h.mono fun _ _ _ b h=>hK.cell h b
def qew (L:LitD)(sa:Value):Value:=.agg #[.int .i64 L.kind,.string L.atom.pred,sa,.bool L.left.var,.string L.left.text,.bool L.right.var,.string L.right.text]
structure qap where
 pred:ByteArray
 rows:Int
 dist:List Int
 deriving DecidableEq,Inhabited
def ql7 (s:qap)(sv:Value):Value:=.agg #[.string s.pred,.int .i64 s.rows,sv]
def q6n (n:Nat)(w:World)(b o:Nat)(s:qap):Prop:= ∃sv,CellsE w b o [.string s.pred,.int .i64 s.rows,sv]/\qat n w sv s.dist
abbrev SizesIn (n:Nat)(w:World)(v:Value)(ss:List qap):Prop:=SliceIn n w 3 (q6n n) v ss
theorem SizesIn.keep {n:Nat}{w w':World}{v:Value}{ss:List qap}(h:SizesIn n w v ss)(hK:Keep (fun k=>k<n) w w'):SizesIn n w' v ss:=
 h.mono fun b o s hb ⟨sv,h1,h2⟩=>⟨sv,fun j v c=>hK.cell (h1 j v c) hb,qjb h2 hK⟩
theorem qw5 {gf:Nat}{bs lb:Array Value}(eg: ∀args w,(callFunc gf args).run prog w=.ok (.enter gf args) w)(p:LitD->Bool)(n0:Nat)(v:Value)(xs:List (LitD))(w:World)(hx:qgh n0 w v xs)(hn:n0<=w.heap.size)
  (hf: ∀x,x∈xs-> ∀W,Keep (fun b=>b<w.heap.size) w W-> ∀sa,qai n0 W sa x.atom.args->Calls prog gf (bs.push (qew x sa)++lb) W fun e w'=>e=.returned (.bool (p x))/\Keep (fun b=>b<W.heap.size) W w'):
  Calls prog 112 #[v,.func (.func gf) bs lb] w fun e w'=>e=.returned (.int .i64 (qch p xs))/\Keep (fun b=>b<w.heap.size) w w':=by
 obtain⟨a,cap,rfl,af,ae,y⟩:=id hx;refine hd2 ?_ y hf;clear y hf;intro R aa
 go_enter Tryz.func112,Tryz.ntmps112
 go_wp2_with fail
 go_loopw [8] (fun i wr=> ∃k:Nat,k<=xs.length/\i=.int .i64 (k:Int)/\Keep (fun b=>b<w.heap.size) w wr/\(xs.take k).any p=false) (fun i _=>xs.length-(intOf i).toNat)
 case atStart=>exact⟨0,wC,rfl,Keep.refl _ _,rfl⟩
 case round=>
  obtain⟨k,hk,rfl,hK,c⟩:=hrel;have ak:=hK.size;by_cases Y:k<xs.length
  ·have ad:(k:Int)<xs.length:=by omega
   have ao:(0:Int)<=k:=wC
   obtain⟨x,g⟩: ∃x,xs[k]?=some x:=⟨_,zB Y⟩;obtain⟨b,o,rfl,hb,sa,q,qt⟩:=R.o k x g;have h0:=hK.cell (q 0 _ rfl) (show b<w.heap.size from wC);have h1:=hK.cell (q 1 _ rfl) (show b<w.heap.size from wC);have h2:=hK.cell (q 2 _ rfl) (show b<w.heap.size from wC);have h3:=hK.cell (q 3 _ rfl) (show b<w.heap.size from wC);have h4:=hK.cell (q 4 _ rfl) (show b<w.heap.size from wC);have h5:=hK.cell (q 5 _ rfl) (show b<w.heap.size from wC);have h6:=hK.cell (q 6 _ rfl) (show b<w.heap.size from wC)
   try simp only [yB,Nat.add_zero] at h0 h1 h2 h3 h4 h5 h6
   have av:b<wr.heap.size:=wC
   have m:=qkc p xs g;rw [c,xJ]at m;have U:=aa.o x (zH g) wr hK sa (qak qt (hK.mono fun b _ h=>wC));obtain⟨px,t⟩: ∃b,p x=b:=⟨_,rfl⟩;have d:=qgf p xs k x g c;rw [t]at m U d;unfold qew at U;clear g q qt;refine hd6 ?_ hK c m t U d;clear hK c m t U d;intro s ab z ah X l;go_wp2_with fail;refine X.o.mono ?_;rintro e W1 ⟨rfl,k1⟩;have u:=s.o.trans (k1.mono fun b hb _=>wC);clear k1;refine hd1 ?_ u;clear u;intro r;cases px
   ·go_wp2_with fail;go_roundw
    case rel=>exact⟨k+1,wC,by go_num,r.o,z.o⟩
    case measure=>simp [intOf];omega
   ·go_wp2_with fail;go_ret;exact⟨by rw [l.o (by trivial)];rfl,r.o⟩
  ·obtain rfl:k=xs.length:=by omega
   rw [zi]at c;have d:=qge p xs c;refine hd2 ?_ hK d;clear hK d;intro s l;go_wp2_with fail;go_ret;exact⟨by rw [l.o];rfl,s.o⟩
theorem qk7 {gf:Nat}{bs lb:Array Value}(r: ∀args w,(callFunc gf args).run prog w=.ok (.enter gf args) w)(p:LitD->Bool)(n0:Nat)(v:Value)(xs:List (LitD))(w:World)(t:qgh n0 w v xs)(R:n0<=w.heap.size)
  (q: ∀x,x∈xs-> ∀W,Keep (fun b=>b<w.heap.size) w W-> ∀sa,qai n0 W sa x.atom.args->Calls prog gf (bs.push (qew x sa)++lb) W fun e w'=>e=.returned (.bool (p x))/\Keep (fun b=>b<W.heap.size) W w'):
  Calls prog 75 #[v,.func (.func gf) bs lb] w fun e w'=>e=.returned (.bool (xs.any p))/\Keep (fun b=>b<w.heap.size) w w':=by
 have hi:=qw5 r p n0 v xs w t R q;have m:=qf6 p xs;obtain⟨i,c⟩:=ex (qch p xs);rw [c]at hi m;obtain⟨a,cap,rfl,u,s,d⟩:=id t;clear d r;refine hd4 ?_ hi q m c;clear hi q m c;intro h U g y
 go_enter Tryz.func75,Tryz.ntmps75
 go_wp2_with fail;refine h.o.mono ?_;rintro e W1 ⟨rfl,z⟩;refine hd1 ?_ z;clear z;intro l;go_wp2_with fail;go_ret;exact⟨by rw [←g.o];rfl,l.o⟩
theorem qnq {gf:Nat}{bs lb:Array Value}(eg: ∀args w,(callFunc gf args).run prog w=.ok (.enter gf args) w)(p:qap->Bool)(n0:Nat)(v:Value)(xs:List (qap))(w:World)(hx:SizesIn n0 w v xs)(hn:n0<=w.heap.size)
  (hf: ∀x,x∈xs-> ∀W,Keep (fun b=>b<w.heap.size) w W-> ∀sv,qat n0 W sv x.dist->Calls prog gf (bs.push (ql7 x sv)++lb) W fun e w'=>e=.returned (.bool (p x))/\Keep (fun b=>b<W.heap.size) W w'):
  Calls prog 174 #[v,.func (.func gf) bs lb] w fun e w'=>e=.returned (.int .i64 (qch p xs))/\Keep (fun b=>b<w.heap.size) w w':=by
 obtain⟨a,cap,rfl,af,ae,u⟩:=id hx;refine hd2 ?_ u hf;clear u hf;intro z Y
 go_enter Tryz.func174,Tryz.ntmps174
 go_wp2_with fail
 go_loopw [8] (fun i wr=> ∃k:Nat,k<=xs.length/\i=.int .i64 (k:Int)/\Keep (fun b=>b<w.heap.size) w wr/\(xs.take k).any p=false) (fun i _=>xs.length-(intOf i).toNat)
 case atStart=>exact⟨0,wC,rfl,Keep.refl _ _,rfl⟩
 case round=>
  obtain⟨k,hk,rfl,hK,c⟩:=hrel;have ak:=hK.size;by_cases aa:k<xs.length
  ·have ad:(k:Int)<xs.length:=by omega
   have ao:(0:Int)<=k:=wC
   obtain⟨x,g⟩: ∃x,xs[k]?=some x:=⟨_,zB aa⟩;obtain⟨b,o,rfl,hb,sv,R,qt⟩:=z.o k x g;have h0:=hK.cell (R 0 _ rfl) (show b<w.heap.size from wC);have h1:=hK.cell (R 1 _ rfl) (show b<w.heap.size from wC);have h2:=hK.cell (R 2 _ rfl) (show b<w.heap.size from wC)
   try simp only [yB,Nat.add_zero] at h0 h1 h2
   have ar:b<wr.heap.size:=wC
   have m:=qkc p xs g;rw [c,xJ]at m;have U:=Y.o x (zH g) wr hK sv (qjb qt (hK.mono fun b _ h=>wC));obtain⟨px,s⟩: ∃b,p x=b:=⟨_,rfl⟩;have d:=qgf p xs k x g c;rw [s]at m U d;unfold ql7 at U;clear g R qt;refine hd6 ?_ hK c m s U d;clear hK c m s U d;intro r ab y ah X l;go_wp2_with fail;refine X.o.mono ?_;rintro e W1 ⟨rfl,k1⟩;have t:=r.o.trans (k1.mono fun b hb _=>wC);clear k1;refine hd1 ?_ t;clear t;intro q;cases px
   ·go_wp2_with fail;go_roundw
    case rel=>exact⟨k+1,wC,by go_num,q.o,y.o⟩
    case measure=>simp [intOf];omega
   ·go_wp2_with fail;go_ret;exact⟨by rw [l.o (by trivial)];rfl,q.o⟩
  ·obtain rfl:k=xs.length:=by omega
   rw [zi]at c;have d:=qge p xs c;refine hd2 ?_ hK d;clear hK d;intro r l;go_wp2_with fail;go_ret;exact⟨by rw [l.o];rfl,r.o⟩
theorem qu0 {gf:Nat}{bs lb:Array Value}(r: ∀args w,(callFunc gf args).run prog w=.ok (.enter gf args) w)(p:qap->Bool)(n0:Nat)(v:Value)(xs:List (qap))(w:World)(t:SizesIn n0 w v xs)(R:n0<=w.heap.size)
  (q: ∀x,x∈xs-> ∀W,Keep (fun b=>b<w.heap.size) w W-> ∀sv,qat n0 W sv x.dist->Calls prog gf (bs.push (ql7 x sv)++lb) W fun e w'=>e=.returned (.bool (p x))/\Keep (fun b=>b<W.heap.size) W w'):
  Calls prog 187 #[v,.func (.func gf) bs lb] w fun e w'=>e=.returned (.bool (xs.any p))/\Keep (fun b=>b<w.heap.size) w w':=by
 have hi:=qnq r p n0 v xs w t R q;have m:=qf6 p xs;obtain⟨i,c⟩:=ex (qch p xs);rw [c]at hi m;obtain⟨a,cap,rfl,u,s,d⟩:=id t;clear d r;refine hd4 ?_ hi q m c;clear hi q m c;intro h U g y
 go_enter Tryz.func187,Tryz.ntmps187
 go_wp2_with fail;refine h.o.mono ?_;rintro e W1 ⟨rfl,z⟩;refine hd1 ?_ z;clear z;intro l;go_wp2_with fail;go_ret;exact⟨by rw [←g.o];rfl,l.o⟩
theorem qw6 {gf:Nat}{bs lb:Array Value}(eg: ∀args w,(callFunc gf args).run prog w=.ok (.enter gf args) w)(p:Int->Bool)(n0:Nat)(v:Value)(xs:List (Int))(w:World)(hx:qat n0 w v xs)(hn:n0<=w.heap.size)
  (hf: ∀x,x∈xs-> ∀W,Keep (fun b=>b<w.heap.size) w W->Calls prog gf (bs.push (.int .i64 x)++lb) W fun e w'=>e=.returned (.bool (p x))/\Keep (fun b=>b<W.heap.size) W w'):
  Calls prog 194 #[v,.func (.func gf) bs lb] w fun e w'=>e=.returned (.int .i64 (qch p xs))/\Keep (fun b=>b<w.heap.size) w w':=by
 obtain⟨a,cap,rfl,ad,ab,t⟩:=id hx;refine hd2 ?_ t hf;clear t hf;intro y R
 go_enter Tryz.func194,Tryz.ntmps194
 go_wp2_with fail
 go_loopw [8] (fun i wr=> ∃k:Nat,k<=xs.length/\i=.int .i64 (k:Int)/\Keep (fun b=>b<w.heap.size) w wr/\(xs.take k).any p=false) (fun i _=>xs.length-(intOf i).toNat)
 case atStart=>exact⟨0,wC,rfl,Keep.refl _ _,rfl⟩
 case round=>
  obtain⟨k,hk,rfl,hK,c⟩:=hrel;have ai:=hK.size;by_cases U:k<xs.length
  ·have aa:(k:Int)<xs.length:=by omega
   have ak:(0:Int)<=k:=wC
   obtain⟨x,g⟩: ∃x,xs[k]?=some x:=⟨_,zB U⟩;obtain⟨b,o,rfl,hb,q0⟩:=y.o k x g;have h0:=hK.cell (q0) (show b<w.heap.size from wC)
   try simp only [yB,Nat.add_zero] at h0
   have an:b<wr.heap.size:=wC
   have l:=qkc p xs g;rw [c,xJ]at l;have Y:=R.o x (zH g) wr hK;obtain⟨px,r⟩: ∃b,p x=b:=⟨_,rfl⟩;have d:=qgf p xs k x g c;rw [r]at l Y d
   skip
   clear g q0;refine hd6 ?_ hK c l r Y d;clear hK c l r Y d;intro q X u ag z h;go_wp2_with fail;refine z.o.mono ?_;rintro e W1 ⟨rfl,k1⟩;have s:=q.o.trans (k1.mono fun b hb _=>wC);clear k1;refine hd1 ?_ s;clear s;intro m;cases px
   ·go_wp2_with fail;go_roundw
    case rel=>exact⟨k+1,wC,by go_num,m.o,u.o⟩
    case measure=>simp [intOf];omega
   ·go_wp2_with fail;go_ret;exact⟨by rw [h.o (by trivial)];rfl,m.o⟩
  ·obtain rfl:k=xs.length:=by omega
   rw [zi]at c;have d:=qge p xs c;refine hd2 ?_ hK d;clear hK d;intro q h;go_wp2_with fail;go_ret;exact⟨by rw [h.o];rfl,q.o⟩
theorem qw7 {gf:Nat}{bs lb:Array Value}(r: ∀args w,(callFunc gf args).run prog w=.ok (.enter gf args) w)(p:Int->Bool)(n0:Nat)(v:Value)(xs:List (Int))(w:World)(t:qat n0 w v xs)(R:n0<=w.heap.size)
  (q: ∀x,x∈xs-> ∀W,Keep (fun b=>b<w.heap.size) w W->Calls prog gf (bs.push (.int .i64 x)++lb) W fun e w'=>e=.returned (.bool (p x))/\Keep (fun b=>b<W.heap.size) W w'):
  Calls prog 189 #[v,.func (.func gf) bs lb] w fun e w'=>e=.returned (.bool (xs.any p))/\Keep (fun b=>b<w.heap.size) w w':=by
 have hi:=qw6 r p n0 v xs w t R q;have m:=qf6 p xs;obtain⟨i,c⟩:=ex (qch p xs);rw [c]at hi m;obtain⟨a,cap,rfl,u,s,d⟩:=id t;clear d r;refine hd4 ?_ hi q m c;clear hi q m c;intro h U g y
 go_enter Tryz.func189,Tryz.ntmps189
 go_wp2_with fail;refine h.o.mono ?_;rintro e W1 ⟨rfl,z⟩;refine hd1 ?_ z;clear z;intro l;go_wp2_with fail;go_ret;exact⟨by rw [←g.o];rfl,l.o⟩
def qbi (t:TermD):Bool:=if t.var then qh0 t.text else qg8 t.text
def smallT (t:TermD):Prop:=t.text.size<=1073741824
def qc3 (t:TermD):Value:=.agg #[.bool t.var,.string t.text]
theorem qpn (t:TermD)(w:World):Calls prog 193 #[qc3 t] w fun e w'=>e=.returned (.bool (qbi t))/\wG w w':=by
 obtain⟨v,s⟩:=t;unfold qc3;simp only;have p:=fun w=>qzv s w;have q:=fun w=>quy s w;have r:qbi ⟨v,s⟩=if v then qh0 s else qg8 s:=rfl
 obtain⟨y,d⟩: ∃b,qh0 s=b:=⟨_,rfl⟩;obtain⟨R,g⟩: ∃b,qg8 s=b:=⟨_,rfl⟩;rw [d,g]at r;simp only [d]at p;simp only [g]at q;refine hd5 ?_ p q r d g;clear p q r d g;intro l m h u x;cases v
 ·go_enter Tryz.func193,Tryz.ntmps193
  go_wp2_with fail;refine(m.o _).mono ?_;rintro e z ⟨rfl,c⟩;have c:=c.symm;subst c;go_wp2_with fail;go_ret;exact⟨by rw [h.o];rfl,kAl⟩
 ·cases y
  all_goals go_enter Tryz.func193,Tryz.ntmps193
  all_goals go_wp2_with fail
  all_goals refine(l.o _).mono ?_
  all_goals (rintro e z ⟨rfl,c⟩;have c:=c.symm;subst c)
  all_goals go_wp2_with fail
  all_goals go_ret
  all_goals exact⟨by rw [h.o];rfl,kAl⟩
theorem qw8 (t:TermD)(w:World):Calls prog 192 #[qc3 t] w fun e w'=>e=.returned (.bool (!qbi t))/\wG w w':=by
 have h:=fun w=>qpn t w;obtain⟨v,s⟩:=t;unfold qc3 at h⊢;simp only at h⊢;obtain⟨p,c⟩: ∃b,qbi ⟨v,s⟩=b:=⟨_,rfl⟩;simp only [c]at h;rw [c];refine hd2 ?_ h c;clear h c;intro g d
 go_enter Tryz.func192,Tryz.ntmps192
 go_wp2_with fail;refine(g.o _).mono ?_;rintro e m ⟨rfl,l⟩;go_wp2_with fail;go_ret;exact⟨rfl,kAl.trans l⟩
def qc4 (a:qcn):Bool:=qdq a.pred&&decide (a.args.length<=16)&&a.args.all qbi
def smallA (a:qcn):Prop:=a.pred.size<=1073741824/\ ∀t,t∈a.args->smallT t
theorem qlh {α:Type}(p:α->Bool)(l:List α):l.any (fun x=>!p x)=!l.all p:=by
 induction l with
 |nil=>rfl
 |cons x r ih=>simp only [any_cons,all_cons,ih,Bool.not_and]
theorem qu1 (n:Nat)(a:qcn)(sa:Value)(w:World)(z:qai n w sa a.args)(hn:n<=w.heap.size):Calls prog 183 #[.agg #[.string a.pred,sa]] w fun e w'=>e=.returned (.bool (qc4 a))/\Keep (fun b=>b<w.heap.size) w w':=by
 obtain⟨pr,args⟩:=a;simp only at z⊢;have U:=fun w=>qoz pr w;have v:qc4 ⟨pr,args⟩=(qdq pr&&decide (args.length<=16)&&args.all qbi):=rfl;obtain⟨b1,p⟩: ∃b,qdq pr=b:=⟨_,rfl⟩;have d:=qlh qbi args;obtain⟨b2,m⟩: ∃b,args.all qbi=b:=⟨_,rfl⟩;rw [m]at d;obtain⟨W0,h⟩:=ex (w.alloc (.cells #[.string pr,sa] 24));have y:wG w W0:=by rw [←h];exact kAl
 have hz:=y.size;have X:=qih (gf:=192) (bs:= #[]) (lb:= #[]) (qdg Tryz.func192 wD rfl) (fun t=>!qbi t) n sa args W0 (qak z y.mt) wC
  (fun x _ W _=>(qw8 x W).mono fun e w' ⟨e1,Y⟩=>⟨e1,Y.mt⟩)
 rw [d]at X;rw [p,m]at v;simp only [p]at U;obtain⟨aa,ca,rfl,ah,ak,ad⟩:=id z;have c1:W0.cell? ⟨w.heap.size,1,none⟩=some (.slice aa args.length ca):=by rw [←h];simp
 have l0:w.heap.size<W0.heap.size:=by rw [←h];simp
 clear ad z d;have q:decide (args.length<=16)=decide ((args.length:Int)<=16):=by rw [yl];omega
 rw [q]at v;obtain⟨b3,l⟩: ∃b,decide ((args.length:Int)<=16)=b:=⟨_,rfl⟩;rw [l]at v;clear q;refine hd7 ?_ U X v p m y h;clear U X v p m y h;intro r R u ae af s g;cases b1
 ·go_enter Tryz.func183,Tryz.ntmps183
  go_wp2_with fail;rw [g.o];refine(r.o _).mono ?_;rintro e w1 ⟨rfl,c⟩;have c:=c.symm;subst c;go_wp2_with fail;go_ret;exact⟨by rw [u.o];rfl,s.o.mt⟩
 ·cases b3
  ·have ab: ¬(args.length:Int)<=16:=xV l;clear l
   go_enter Tryz.func183,Tryz.ntmps183
   go_wp2_with fail;rw [g.o];refine(r.o _).mono ?_;rintro e w1 ⟨rfl,c⟩;have c:=c.symm;subst c;go_wp2_with fail;go_ret;exact⟨by rw [u.o];rfl,s.o.mt⟩
  ·have ab:(args.length:Int)<=16:=yE l;clear l
   go_enter Tryz.func183,Tryz.ntmps183
   go_wp2_with fail;rw [g.o];refine(r.o _).mono ?_;rintro e w1 ⟨rfl,c⟩;have c:=c.symm;subst c;go_wp2_with fail;refine R.o.mono ?_;rintro e W1 ⟨rfl,Y⟩;go_wp2_with fail;go_ret;exact⟨by rw [u.o];cases b2<;>rfl,s.o.trans (Y.mono fun b hb _=>wC) |>.mono fun b hb _=>wH⟩
end Go.Proofs.P16
