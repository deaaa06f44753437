/- Parts of the proof. -/
import Derived.Test.YtnponcjnahicnaaGreatDoorSetToJnA
set_option linter.unusedSimpArgs false
set_option linter.unusedVariables false
open List(foldl_cons length_cons map_inj_left map_map pairwise_cons)
namespace Go.Ink
def ltL:List Nat->List Nat->Bool
 | [],[]=>false
 | [],_::_=>true
 |_::_,[]=>false
 |x::xs,y::ys=>if x<y then true else if y<x then false else ltL xs ys
theorem qor: ∀a,ltL a a=false:=by
 intro a
 induction a with
 |nil=>rfl
 |cons x xs ih=>unfold ltL;rw [zF xz,zF xz];exact ih
theorem qqg: ∀{a b c:List Nat},ltL a b=true->ltL b c=true->ltL a c=true:=by
 intro a
 induction a with
 |nil=>
  intro b c h g;cases b with
  |nil=>cases h
  |cons y ys=>
   cases c with
   |nil=>cases g
   |cons z zs=>rfl
 |cons x xs ih=>
  intro b c h g;cases b with
  |nil=>cases h
  |cons y ys=>
   cases c with
   |nil=>cases g
   |cons z zs=>
    unfold ltL at h g⊢;by_cases i:x<y
    ·by_cases e:y<z
     ·rw [zI xz]
     ·rw [zF e]at g;by_cases d:z<y
      ·rw [zI d]at g;cases g
      ·rw [zI xz]
    ·rw [zF i]at h;by_cases f:y<x
     ·rw [zI f]at h;cases h
     ·rw [zF f]at h;by_cases e:y<z
      ·rw [zI xz]
      ·rw [zF e]at g;by_cases d:z<y
       ·rw [zI d]at g;cases g
       ·rw [zF d]at g;rw [zF xz,zF xz];exact ih h g
theorem qyy: ∀{a b:List Nat},ltL a b=false->ltL b a=false->a=b:=by
 intro a
 induction a with
 |nil=>
  intro b h g;cases b with
  |nil=>rfl
  |cons y ys=>cases h
 |cons x xs ih=>
  intro b h g;cases b with
  |nil=>cases g
  |cons y ys=>
   unfold ltL at h g;by_cases c:x<y
   ·rw [zI c]at h;cases h
   ·by_cases d:y<x
    ·rw [zI d]at g;cases g
    ·rw [zF c,zF d]at h;rw [zF d,zF c]at g;have:x=y:=by omega
     rw [this,ih h g]
def qos (s:ByteArray):List Nat:=s.data.toList.map UInt8.toNat
theorem qyz {a b:ByteArray}(h:qos a=qos b):a=b:=by
 unfold qos at h;have:=(List.map_inj_right (fun x y h=>UInt8.toNat_inj.1 h)).1 h;cases a;cases b
 congr
 exact Array.toList_inj.1 this
def ltS (a b:ByteArray):Bool:=ltL (qos a) (qos b)
def ltR:List ByteArray->List ByteArray->Bool
 | [],[]=>false
 | [],_::_=>true
 |_::_,[]=>false
 |x::xs,y::ys=>if ltS x y=true then true else if ltS y x=true then false else ltR xs ys
theorem qkt (a:ByteArray):ltS a a=false:=qor _
theorem qie {a b:ByteArray}(h:ltS a b=false)(g:ltS b a=false):a=b:=qyz (qyy h g)
theorem qy0 {a b c:ByteArray}(h:ltS a b=true)(g:ltS b c=true):ltS a c=true:=qqg h g
theorem qqh {a b:ByteArray}(h:ltS a b=true):ltS b a=false:=by
 cases g:ltS b a with
 |false=>rfl
 |true=>
  have:=qqg h g;rw [qor]at this;cases this
theorem qku: ∀a,ltR a a=false:=by
 intro a
 induction a with
 |nil=>rfl
 |cons x xs ih=>
  unfold ltR;rw [qkt,zF wB,zF wB];exact ih
theorem qqi: ∀{a b c:List ByteArray},ltR a b=true->ltR b c=true->ltR a c=true:=by
 intro a
 induction a with
 |nil=>
  intro b c h g;cases b with
  |nil=>cases h
  |cons y ys=>
   cases c with
   |nil=>cases g
   |cons z zs=>rfl
 |cons x xs ih=>
  intro b c h g;cases b with
  |nil=>cases h
  |cons y ys=>
   cases c with
   |nil=>cases g
   |cons z zs=>
    unfold ltR at h g⊢;by_cases i:ltS x y=true
    ·by_cases d:ltS y z=true
     ·rw [zI (qy0 i d)]
     ·rw [zF d]at g;by_cases f:ltS z y=true
      ·rw [zI f]at g;cases g
      ·have e:y=z:=qie (by simpa using d) (by simpa using f);subst e;rw [zI i]
    ·rw [zF i]at h;by_cases j:ltS y x=true
     ·rw [zI j]at h;cases h
     ·rw [zF j]at h;have e:x=y:=qie (by simpa using i) (by simpa using j);subst e;by_cases d:ltS x z=true
      ·rw [zI d]
      ·rw [zF d]at g;by_cases f:ltS z x=true
       ·rw [zI f]at g;cases g
       ·rw [zF f]at g;rw [zF d,zF f];exact ih h g
theorem qy1: ∀{a b:List ByteArray},ltR a b=false->ltR b a=false->a=b:=by
 intro a
 induction a with
 |nil=>
  intro b h g;cases b with
  |nil=>rfl
  |cons y ys=>cases h
 |cons x xs ih=>
  intro b h g;cases b with
  |nil=>cases g
  |cons y ys=>
   unfold ltR at h g;by_cases c:ltS x y=true
   ·rw [zI c]at h;cases h
   ·by_cases d:ltS y x=true
    ·rw [zI d]at g;cases g
    ·rw [zF c,zF d]at h;rw [zF d,zF c]at g;have e:x=y:=qie (by simpa using c) (by simpa using d);rw [e,ih h g]
theorem qy2 {a b:List ByteArray}(h:ltR a b=true):ltR b a=false:=by
 cases g:ltR b a with
 |false=>rfl
 |true=>
  have:=qqi h g;rw [qku]at this;cases this
structure qa5 where
 head:List ByteArray
 vals:List ByteArray
 deriving DecidableEq,Inhabited
def qdp:List qa5->qa5->List qa5
 | [],m=> [m]
 |x::xs,m=>if ltR x.vals m.vals=true then x::qdp xs m else m::x::xs
def qf0 (l:List qa5):List qa5:=l.foldl qdp []
def qg2 (l:List qa5):Prop:=l.Pairwise fun x y=>ltR x.vals y.vals=true
theorem qpn {l:List qa5}{m x:qa5}:x∈qdp l m↔x∈l∨x=m:=by
 induction l with
 |nil=>unfold qdp;simp
 |cons y ys ih=>
  unfold qdp;split
  ·rw [zt,ih,zt,or_assoc]
  ·rw [zt,zt];constructor
   ·rintro(h |h |h)
    ·exact .inr h
    ·exact .inl (.inl h)
    ·exact .inl (.inr h)
   ·rintro((h |h) |h)
    ·exact .inr (.inl h)
    ·exact .inr (.inr h)
    ·exact .inl h
theorem q3p (l:List qa5)(m:qa5):(qdp l m).length=l.length+1:=by
 induction l with
 |nil=>rfl
 |cons y ys ih=>
  unfold qdp;split
  ·rw [length_cons,ih,length_cons]
  ·rfl
theorem q1u {l:List qa5}{m:qa5}(h:qg2 l)(d: ∀x,x∈l->x.vals≠m.vals):qg2 (qdp l m):=by
 induction l with
 |nil=>unfold qdp qg2;simp
 |cons y ys ih=>
  unfold qg2 at h;rw [pairwise_cons]at h;unfold qdp;split
  ·rename_i hy;unfold qg2;rw [pairwise_cons];refine⟨fun x b=>?_,ih h.2 (fun x b=>d x (yC _ b))⟩;rcases qpn.1 b with b |rfl
   ·exact h.1 x b
   ·exact hy
  ·rename_i hy;have c:ltR m.vals y.vals=true:=by
    cases g:ltR m.vals y.vals with
    |true=>rfl
    |false=>exact absurd (qy1 (by simpa using hy) g) (d y (yI ..))
   unfold qg2;rw [pairwise_cons];refine⟨fun x b=>?_,pairwise_cons.2 h⟩;rcases zt.1 b with rfl |b
   ·exact c
   ·exact qqi c (h.1 x b)
theorem qvl {l:List qa5}: ∀{acc:List qa5},(∀x,x∈l.foldl qdp acc↔x∈acc∨x∈l)/\(l.foldl qdp acc).length=acc.length+l.length:=by
 induction l with
 |nil=>intro acc;simp
 |cons m l ih=>
  intro acc;obtain⟨b,c⟩:=ih (acc:=qdp acc m);refine⟨fun x=>?_,?_⟩
  ·rw [foldl_cons,b,qpn,zt,or_assoc]
  ·rw [foldl_cons,c,q3p,length_cons];omega
theorem qsk {l:List qa5}{x:qa5}:x∈qf0 l↔x∈l:=by
 unfold qf0;rw [qvl.1];simp
theorem qkv (l:List qa5):(qf0 l).length=l.length:=by
 unfold qf0;rw [qvl.2];simp
theorem qsl {l:List qa5}: ∀{acc:List qa5},qg2 acc->(l.map (·.vals)).Nodup->(∀x,x∈acc->x.vals∉l.map (·.vals))->qg2 (l.foldl qdp acc):=by
 induction l with
 |nil=>intro acc h _ _;exact h
 |cons m l ih=>
  intro acc h c f;rw [yW,xR]at c;refine ih (q1u h (fun x b e=>f x b (by rw [e];exact yI ..))) c.2 (fun x b d=>?_);rcases qpn.1 b with b |rfl
  ·exact f x b (yC _ d)
  ·exact c.1 d
theorem qqj {l:List qa5}(h:(l.map (·.vals)).Nodup):qg2 (qf0 l):=qsl List.Pairwise.nil h (fun x b=>by cases b)
theorem qy3: ∀{l k:List qa5},qg2 l->qg2 k->(∀x,x∈l↔x∈k)->l=k:=by
 intro l
 induction l with
 |nil=>
  intro k _ _ h;cases k with
  |nil=>rfl
  |cons y ys=>exact absurd ((h y).2 (yI ..)) wB
 |cons x xs ih=>
  intro k d c h;cases k with
  |nil=>exact absurd ((h x).1 (yI ..)) wB
  |cons y ys=>
   unfold qg2 at d c;rw [pairwise_cons]at d c;have e:x=y:=by
    rcases zt.1 ((h x).1 (yI ..)) with e |hx
    ·exact e
    ·rcases zt.1 ((h y).2 (yI ..)) with e |hy
     ·exact e.symm
     ·have b:=c.1 x hx;have i:=d.1 y hy;rw [qy2 b]at i;cases i
   subst e
   congr 1
   refine ih d.2 c.2 fun z=>?_;have g:=h z;rw [zt,zt]at g;constructor
   ·intro f;rcases g.1 (.inr f) with rfl |b
    ·have:=d.1 z f;rw [qku]at this;cases this
    ·exact b
   ·intro f;rcases g.2 (.inr f) with rfl |b
    ·have:=c.1 z f;rw [qku]at this;cases this
    ·exact b
theorem qy4 {l k:List qa5}(c:(l.map (·.vals)).Nodup)(b:(k.map (·.vals)).Nodup)(h: ∀x,x∈l↔x∈k):qf0 l=qf0 k:=
 qy3 (qqj c) (qqj b) (fun x=>by rw [qsk,qsk,h])
def qm (r:RuleD):List ByteArray:=qa2 r.names
def qcr (r:RuleD)(b:Asg):qa5:=⟨r.head.args.map (qcu b),(qm r).map fun x=>(b x).getD ⟨#[]⟩⟩
def qb1 (body:List LitD)(i:Nat):Int:=(body.getD i default).kind
def qcn (body:List LitD):List Nat:=(List.range body.length).filter fun i=>qb1 body i==1
def qrp (J:qa6)(body:List LitD)(b:Asg):Bool:=
 (List.range body.length).all fun i=>if qb1 body i=3 then qaf b (body.getD i default).left !=qaf b (body.getD i default).right
  else if qb1 body i=2 then !decide ((body.getD i default).atom.args.map (qcu b)∈J.neg i) else true
def qif (J:qa6)(body:List LitD):List Asg:=(qbe J body (qcn body) qco).filter (qrp J body)
def qkw (J:qa6)(r:RuleD):List qa5:=qf0 ((qif J r.body).map (qcr r))
def qwu (body:List LitD)(is:List Nat):Prop:= ∀i,i∈is↔i<body.length
def qi4 (body:List LitD):Prop:= ∀i,i<body.length->qb1 body i=1∨qb1 body i=2∨qb1 body i=3
def q48 (r:RuleD):Prop:= ∀x,x∈r.names->x∈qaa r.body (qcn r.body)
theorem qg7:(fun x=> ∃v,qco x=some v)=fun _=>False:=xy fun x=>propext ⟨fun⟨v,h⟩=>(by cases h),False.elim⟩
theorem qpo (body:List LitD): ∀(is:List Nat) (K:ByteArray->Prop),(∀i,i∈is->qb1 body i=1)->qgd body is K:=by
 intro is
 induction is with
 |nil=>intro K _;trivial
 |cons i is ih=>
  intro K h;have b:=h i (yI ..);unfold qb1 at b;refine⟨fun d=>?_,fun c=>?_,ih _ (fun k e=>h k (yC _ e))⟩
  ·rw [b]at d;cases d
  ·rw [b]at c;cases c
theorem qf5 {body:List LitD}{i:Nat}(h:i∈qcn body):i<body.length/\qb1 body i=1:=by
 unfold qcn at h;rw [yU,yh]at h;exact⟨h.1,by simpa using h.2⟩
theorem qgx {body:List LitD}{b:List Nat}{x:ByteArray}:x∈qaa body b↔ ∃i,i∈b/\ ¬(qb1 body i=3∨qb1 body i=2)/\x∈qar (body.getD i default).atom.args:=by
 unfold qaa qb1;rw [xC];constructor
 ·rintro⟨i,hi,hx⟩;split at hx
  ·cases hx
  ·rename_i h;exact⟨i,hi,h,hx⟩
 ·rintro⟨i,hi,h,hx⟩;exact⟨i,hi,by rw [zF h];exact hx⟩
theorem qj4 {body:List LitD}{d:List Nat}(b:qwu body d)(e:qi4 body)(x:ByteArray):x∈qaa body d↔x∈qaa body (qcn body):=by
 rw [qgx,qgx];constructor
 ·rintro⟨i,hi,h,hx⟩;have c:=(b i).1 hi;refine⟨i,?_,h,hx⟩;unfold qcn;rw [yU,yh];rcases e i c with h1 |h1 |h1
  ·exact⟨c,by simpa using h1⟩
  ·exact absurd (.inr h1) h
  ·exact absurd (.inl h1) h
 ·rintro⟨i,hi,h,hx⟩;exact⟨i,(b i).2 (qf5 hi).1,h,hx⟩
theorem q1v {J:qa6}{body:List LitD}{b:Asg}:qrp J body b=true↔ ∀i,i<body.length->qb1 body i=2∨qb1 body i=3->qgc J body b i:=by
 unfold qrp;rw [yL];unfold qgc qb1;constructor
 ·intro h i hi c;have:=h i (yh.2 hi);split at this
  ·rename_i h3;rw [zI h3]
   simpa using this
  ·rename_i h3;rw [zF h3];split at this
   ·rename_i h2;rw [zI h2]
    simpa using this
   ·rename_i h2;rcases c with c |c
    ·exact absurd c h2
    ·exact absurd c h3
 ·intro h i hi;have hi:=yh.1 hi;split
  ·rename_i h3;have:=h i hi (.inr h3);rw [zI h3]at this
   simpa using this
  ·rename_i h3;split
   ·rename_i h2;have:=h i hi (.inl h2);rw [zF h3,zI h2]at this
    simpa using this
   ·rfl
theorem qpp {J:qa6}{body:List LitD}{e:List Nat}(c:qwu body e)(f:qi4 body)(g:qgd body e (fun _=>False))(b:Asg):b∈qbe J body e qco↔b∈qif J body:=by
 unfold qif;rw [yU,qkk e qco b (by rw [qg7];exact g),qkk (qcn body) qco b (by rw [qg7];exact qpo _ _ _ fun i hi=>(qf5 hi).2),q1v];constructor
 ·rintro⟨h1,h2,h3⟩;refine⟨⟨h1,fun x=>?_,fun i hi=>h3 i ((c i).2 (qf5 hi).1)⟩,fun i hi _=>h3 i ((c i).2 hi)⟩;rw [h2 x,qj4 c f]
 ·rintro⟨⟨h1,h2,h3⟩,h4⟩;refine⟨h1,fun x=>?_,fun i hi=>?_⟩
  ·rw [h2 x,qj4 c f]
  ·have d:=(c i).1 hi;rcases f i d with h |h |h
   ·refine h3 i ?_;unfold qcn;rw [yU,yh];exact⟨d,by simpa using h⟩
   ·exact h4 i d (.inl h)
   ·exact h4 i d (.inr h)
theorem qwv {J:qa6}{body:List LitD}{b:Asg}:b∈qif J body↔(ExtA qco b/\qh9 qco b (qaa body (qcn body))/\ ∀i,i∈qcn body->qgc J body b i)/\qrp J body b=true:=by
 unfold qif;rw [yU,qkk (qcn body) qco b (by rw [qg7];exact qpo _ _ _ fun i hi=>(qf5 hi).2)]
theorem qkx {r:RuleD}{L:LitD}{t:TermD}(c:L∈r.lits)(d:t∈L.terms)(e:t.var=true):t.text∈r.names:=by
 have b: ∀(ls:List LitD) (i:Nat),L∈ls->t.text∈(qcp ls i).map (·.2):=by
  intro ls
  induction ls with
  |nil=>intro i h;cases h
  |cons M ls ih=>
   intro i h;unfold qcp;rw [zm,zn];rcases zt.1 h with rfl |h
   ·refine .inl ?_;rw [map_map];unfold LitD.uses;rw [map_map];exact yK.2 ⟨t,yU.2 ⟨d,e⟩,rfl⟩
   ·exact .inr (ih (i+1) h)
 exact b r.lits 0 c
theorem qeu (l:List ByteArray)(x:ByteArray):x∈qa2 l↔x∈l:=by
 have b: ∀(l acc:List ByteArray),x∈l.foldl (fun acc x=>if x∈acc then acc else acc++ [x]) acc↔x∈acc∨x∈l:=by
  intro l
  induction l with
  |nil=>intro acc;simp
  |cons y l ih=>
   intro acc;rw [foldl_cons,ih,zt];split
   ·rename_i hy;constructor
    ·rintro(h |h)
     ·exact .inl h
     ·exact .inr (.inr h)
    ·rintro(h |rfl |h)
     ·exact .inl h
     ·exact .inl hy
     ·exact .inr h
   ·rw [zn,zl,or_assoc]
 unfold qa2;rw [b];simp
theorem q1w {r:RuleD}{b c:Asg}{xs:List ByteArray}(p: ∀x,x∈xs->x∈qm r)(f:qh9 qco b xs)(g:qh9 qco c xs)(h:(qcr r b).vals=(qcr r c).vals):b=c:=by
 refine xy fun x=>?_;have e: ∀a:Asg,qh9 qco a xs->((∃v,a x=some v)↔x∈xs):=fun a m=>by
  rw [m x];constructor
  ·rintro(⟨v,h⟩ |h)
   ·cases h
   ·exact h
  ·exact .inr
 by_cases d:x∈xs
 ·obtain⟨v,j⟩:=(e b f).2 d;obtain⟨u,i⟩:=(e c g).2 d;have:(b x).getD ⟨#[]⟩=(c x).getD ⟨#[]⟩:=by
   unfold qcr at h;exact map_inj_left.1 h x (p x d)
  rw [j,i]at this;rw [j,i];exact yM some this
 ·cases k:b x with
  |some v=>exact absurd ((e b f).1 ⟨v,k⟩) d
  |none=>
   cases l:c x with
   |some v=>exact absurd ((e c g).1 ⟨v,l⟩) d
   |none=>rfl
theorem qot {r:RuleD}{l:List Asg}{xs:List ByteArray}(i: ∀x,x∈xs->x∈qm r)(e: ∀b,b∈l->qh9 qco b xs)(f:l.Nodup):((l.map (qcr r)).map (·.vals)).Nodup:=by
 rw [map_map]
 induction l with
 |nil=>simp
 |cons b l ih=>
  rw [xR]at f;rw [yW,xR];refine⟨fun h=>?_,ih (fun c d=>e c (yC _ d)) f.2⟩;obtain⟨c,d,g⟩:=yK.1 h;have:=q1w i (e c (yC _ d)) (e b (yI ..)) g;subst this;exact f.1 d
theorem qqk {r:RuleD}{x:ByteArray}(h:x∈qaa r.body (qcn r.body)):x∈qm r:=by
 obtain⟨i,hi,-,e⟩:=qgx.1 h;obtain⟨d,c⟩:=qf5 hi;unfold qb1 at c;unfold qar at e;obtain⟨t,b,rfl⟩:=yK.1 e;rw [yU]at b;unfold qm;rw [qeu];have f:r.body.getD i default=r.body[i]:=by rw [zJ,zB d];rfl
 refine qkx (L:=r.body.getD i default) ?_ ?_ b.2
 ·rw [f];exact yC _ (xD d)
 ·unfold LitD.terms;rw [zI (.inl c)];exact b.1
theorem q3q {J:qa6}{r:RuleD}{d:List Nat}(l: ∀i,(J.pos i).Nodup)(f:qwu r.body d)(g:qi4 r.body)(e:qgd r.body d (fun _=>False)):
  qf0 ((qbe J r.body d qco).map (qcr r))=qkw J r:=by
 have p: ∀b,b∈qif J r.body->qh9 qco b (qaa r.body (qcn r.body)):=fun b c=>(qwv.1 c).1.2.1;have h:(qbe J r.body d qco).Nodup:=qqz l d qco (by rw [qg7];exact e);have j:(qif J r.body).Nodup:=List.Pairwise.filter _ (qqz l _ qco (by rw [qg7];exact qpo _ _ _ fun i hi=>(qf5 hi).2));unfold qkw;refine qy4 (qot (fun x k=>qqk k) (fun b c=>p b ((qpp f g e b).1 c)) h) (qot (fun x k=>qqk k) p j) fun m=>?_;rw [yK,yK];constructor
 ·rintro⟨b,c,rfl⟩;exact⟨b,(qpp f g e b).1 c,rfl⟩
 ·rintro⟨b,c,rfl⟩;exact⟨b,(qpp f g e b).2 c,rfl⟩
end Go.Ink
