/- Parts of the proof. -/
import Derived.Test.YtnponcjnahicnaaGreatRuleToJnA
set_option linter.unusedSimpArgs false
set_option linter.unusedVariables false
open List(foldl_cons length_cons map_inj_left map_map pairwise_cons)
namespace Go.Ink
def ltL:List Nat->List Nat->Bool
 | [],[]=>false
 | [],_::_=>true
 |_::_,[]=>false
 |x::xs,y::ys=>if x<y then true else if y<x then false else ltL xs ys
theorem qqf: ∀a,ltL a a=false:=by
 intro a
 induction a with
 |nil=>rfl
 |cons x xs ih=>unfold ltL;rw [zF wC,zF wC];exact ih
theorem qse: ∀{a b c:List Nat},ltL a b=true->ltL b c=true->ltL a c=true:=by
 intro a
 induction a with
 |nil=>
  intro b c h g;cases b with
  |nil=>cases h
  |cons y ys=>
   cases c with
   |nil=>cases g
   |cons z zs=>rfl
 |cons x xs ih=>
  intro b c h g;cases b with
  |nil=>cases h
  |cons y ys=>
   cases c with
   |nil=>cases g
   |cons z zs=>
    unfold ltL at h g⊢;by_cases m:x<y
    ·by_cases e:y<z
     ·rw [zI wC]
     ·rw [zF e]at g;by_cases d:z<y
      ·rw [zI d]at g;cases g
      ·rw [zI wC]
    ·rw [zF m]at h;by_cases l:y<x
     ·rw [zI l]at h;cases h
     ·rw [zF l]at h;by_cases e:y<z
      ·rw [zI wC]
      ·rw [zF e]at g;by_cases d:z<y
       ·rw [zI d]at g;cases g
       ·rw [zF d]at g;rw [zF wC,zF wC];exact ih h g
theorem q1s: ∀{a b:List Nat},ltL a b=false->ltL b a=false->a=b:=by
 intro a
 induction a with
 |nil=>
  intro b h g;cases b with
  |nil=>rfl
  |cons y ys=>cases h
 |cons x xs ih=>
  intro b h g;cases b with
  |nil=>cases g
  |cons y ys=>
   unfold ltL at h g;by_cases c:x<y
   ·rw [zI c]at h;cases h
   ·by_cases d:y<x
    ·rw [zI d]at g;cases g
    ·rw [zF c,zF d]at h;rw [zF d,zF c]at g;have:x=y:=by omega
     rw [this,ih h g]
def qqg (s:ByteArray):List Nat:=s.data.toList.map UInt8.toNat
theorem q1t {a b:ByteArray}(h:qqg a=qqg b):a=b:=by
 unfold qqg at h;have:=(List.map_inj_right (fun x y h=>UInt8.toNat_inj.1 h)).1 h;cases a;cases b
 congr
 exact Array.toList_inj.1 this
def ltS (a b:ByteArray):Bool:=ltL (qqg a) (qqg b)
def ltR:List ByteArray->List ByteArray->Bool
 | [],[]=>false
 | [],_::_=>true
 |_::_,[]=>false
 |x::xs,y::ys=>if ltS x y=true then true else if ltS y x=true then false else ltR xs ys
theorem qlv (a:ByteArray):ltS a a=false:=qqf _
theorem qi8 {a b:ByteArray}(h:ltS a b=false)(g:ltS b a=false):a=b:=q1t (q1s h g)
theorem q1u {a b c:ByteArray}(h:ltS a b=true)(g:ltS b c=true):ltS a c=true:=qse h g
theorem qsf {a b:ByteArray}(h:ltS a b=true):ltS b a=false:=by
 cases g:ltS b a with
 |false=>rfl
 |true=>
  have:=qse h g;rw [qqf]at this;cases this
theorem qic: ∀a,ltR a a=false:=by
 intro a
 induction a with
 |nil=>rfl
 |cons x xs ih=>
  unfold ltR;rw [qlv,zF wE,zF wE];exact ih
theorem qsg: ∀{a b c:List ByteArray},ltR a b=true->ltR b c=true->ltR a c=true:=by
 intro a
 induction a with
 |nil=>
  intro b c h g;cases b with
  |nil=>cases h
  |cons y ys=>
   cases c with
   |nil=>cases g
   |cons z zs=>rfl
 |cons x xs ih=>
  intro b c h g;cases b with
  |nil=>cases h
  |cons y ys=>
   cases c with
   |nil=>cases g
   |cons z zs=>
    unfold ltR at h g⊢;by_cases m:ltS x y=true
    ·by_cases d:ltS y z=true
     ·rw [zI (q1u m d)]
     ·rw [zF d]at g;by_cases l:ltS z y=true
      ·rw [zI l]at g;cases g
      ·have e:y=z:=qi8 (by simpa using d) (by simpa using l);subst e;rw [zI m]
    ·rw [zF m]at h;by_cases p:ltS y x=true
     ·rw [zI p]at h;cases h
     ·rw [zF p]at h;have e:x=y:=qi8 (by simpa using m) (by simpa using p);subst e;by_cases d:ltS x z=true
      ·rw [zI d]
      ·rw [zF d]at g;by_cases l:ltS z x=true
       ·rw [zI l]at g;cases g
       ·rw [zF l]at g;rw [zF d,zF l];exact ih h g
theorem qsh: ∀{a b:List ByteArray},ltR a b=false->ltR b a=false->a=b:=by
 intro a
 induction a with
 |nil=>
  intro b h g;cases b with
  |nil=>rfl
  |cons y ys=>cases h
 |cons x xs ih=>
  intro b h g;cases b with
  |nil=>cases g
  |cons y ys=>
   unfold ltR at h g;by_cases c:ltS x y=true
   ·rw [zI c]at h;cases h
   ·by_cases d:ltS y x=true
    ·rw [zI d]at g;cases g
    ·rw [zF c,zF d]at h;rw [zF d,zF c]at g;have e:x=y:=qi8 (by simpa using c) (by simpa using d);rw [e,ih h g]
theorem q1v {a b:List ByteArray}(h:ltR a b=true):ltR b a=false:=by
 cases g:ltR b a with
 |false=>rfl
 |true=>
  have:=qsg h g;rw [qic]at this;cases this
structure qa0 where
 head:List ByteArray
 vals:List ByteArray
 deriving DecidableEq,Inhabited
def qdd:List qa0->qa0->List qa0
 | [],m=> [m]
 |x::xs,m=>if ltR x.vals m.vals=true then x::qdd xs m else m::x::xs
def qfu (l:List qa0):List qa0:=l.foldl qdd []
def qhq (l:List qa0):Prop:=l.Pairwise fun x y=>ltR x.vals y.vals=true
theorem qrp {l:List qa0}{m x:qa0}:x∈qdd l m↔x∈l∨x=m:=by
 induction l with
 |nil=>unfold qdd;simp
 |cons y ys ih=>
  unfold qdd;split
  ·rw [zw,ih,zw,or_assoc]
  ·rw [zw,zw];constructor
   ·rintro(h |h |h)
    ·exact .inr h
    ·exact .inl (.inl h)
    ·exact .inl (.inr h)
   ·rintro((h |h) |h)
    ·exact .inr (.inl h)
    ·exact .inr (.inr h)
    ·exact .inl h
theorem qx2 (l:List qa0)(m:qa0):(qdd l m).length=l.length+1:=by
 induction l with
 |nil=>rfl
 |cons y ys ih=>
  unfold qdd;split
  ·rw [length_cons,ih,length_cons]
  ·rfl
theorem q43 {l:List qa0}{m:qa0}(h:qhq l)(d: ∀x,x∈l->x.vals≠m.vals):qhq (qdd l m):=by
 induction l with
 |nil=>unfold qdd qhq;simp
 |cons y ys ih=>
  unfold qhq at h;rw [pairwise_cons]at h;unfold qdd;split
  ·rename_i hy;unfold qhq;rw [pairwise_cons];refine⟨fun x b=>?_,ih h.2 (fun x b=>d x (yD _ b))⟩;rcases qrp.1 b with b |rfl
   ·exact h.1 x b
   ·exact hy
  ·rename_i hy;have c:ltR m.vals y.vals=true:=by
    cases g:ltR m.vals y.vals with
    |true=>rfl
    |false=>exact absurd (qsh (by simpa using hy) g) (d y (yJ ..))
   unfold qhq;rw [pairwise_cons];refine⟨fun x b=>?_,pairwise_cons.2 h⟩;rcases zw.1 b with rfl |b
   ·exact c
   ·exact qsg c (h.1 x b)
theorem qx3 {l:List qa0}: ∀{acc:List qa0},(∀x,x∈l.foldl qdd acc↔x∈acc∨x∈l)/\(l.foldl qdd acc).length=acc.length+l.length:=by
 induction l with
 |nil=>intro acc;simp
 |cons m l ih=>
  intro acc;obtain⟨b,c⟩:=ih (acc:=qdd acc m);refine⟨fun x=>?_,?_⟩
  ·rw [foldl_cons,b,qrp,zw,or_assoc]
  ·rw [foldl_cons,c,qx2,length_cons];omega
theorem qpf {l:List qa0}{x:qa0}:x∈qfu l↔x∈l:=by
 unfold qfu;rw [qx3.1];simp
theorem qhw (l:List qa0):(qfu l).length=l.length:=by
 unfold qfu;rw [qx3.2];simp
theorem quh {l:List qa0}: ∀{acc:List qa0},qhq acc->(l.map (·.vals)).Nodup->(∀x,x∈acc->x.vals∉l.map (·.vals))->qhq (l.foldl qdd acc):=by
 induction l with
 |nil=>intro acc h _ _;exact h
 |cons m l ih=>
  intro acc h c hd;rw [yZ,xU]at c;refine ih (q43 h (fun x b e=>hd x b (by rw [e];exact yJ ..))) c.2 (fun x b d=>?_);rcases qrp.1 b with b |rfl
  ·exact hd x b (yD _ d)
  ·exact c.1 d
theorem qsi {l:List qa0}(h:(l.map (·.vals)).Nodup):qhq (qfu l):=quh List.Pairwise.nil h (fun x b=>by cases b)
theorem q1w: ∀{l k:List qa0},qhq l->qhq k->(∀x,x∈l↔x∈k)->l=k:=by
 intro l
 induction l with
 |nil=>
  intro k _ _ h;cases k with
  |nil=>rfl
  |cons y ys=>exact absurd ((h y).2 (yJ ..)) wE
 |cons x xs ih=>
  intro k c b h;cases k with
  |nil=>exact absurd ((h x).1 (yJ ..)) wE
  |cons y ys=>
   unfold qhq at c b;rw [pairwise_cons]at c b;have e:x=y:=by
    rcases zw.1 ((h x).1 (yJ ..)) with e |hx
    ·exact e
    ·rcases zw.1 ((h y).2 (yJ ..)) with e |hy
     ·exact e.symm
     ·have g:=b.1 x hx;have p:=c.1 y hy;rw [q1v g]at p;cases p
   subst e
   congr 1
   refine ih c.2 b.2 fun z=>?_;have m:=h z;rw [zw,zw]at m;constructor
   ·intro d;rcases m.1 (.inr d) with rfl |g
    ·have:=c.1 z d;rw [qic]at this;cases this
    ·exact g
   ·intro d;rcases m.2 (.inr d) with rfl |g
    ·have:=b.1 z d;rw [qic]at this;cases this
    ·exact g
theorem q1x {l k:List qa0}(c:(l.map (·.vals)).Nodup)(b:(k.map (·.vals)).Nodup)(h: ∀x,x∈l↔x∈k):qfu l=qfu k:=
 q1w (qsi c) (qsi b) (fun x=>by rw [qpf,qpf,h])
def qu (r:RuleD):List ByteArray:=qbf r.names
def qbn (r:RuleD)(b:Asg):qa0:=⟨r.head.args.map (qaz b),(qu r).map fun x=>(b x).getD ⟨#[]⟩⟩
def qbm (body:List LitD)(i:Nat):Int:=(body.getD i default).kind
def qaf (body:List LitD):List Nat:=(List.range body.length).filter fun i=>qbm body i==1
def qi5 (J:qbd)(body:List LitD)(b:Asg):Bool:=
 (List.range body.length).all fun i=>if qbm body i=3 then qaa b (body.getD i default).left !=qaa b (body.getD i default).right
  else if qbm body i=2 then !decide ((body.getD i default).atom.args.map (qaz b)∈J.neg i) else true
def qes (J:qbd)(body:List LitD):List Asg:=(qbl J body (qaf body) qca).filter (qi5 J body)
def qeo (J:qbd)(r:RuleD):List qa0:=qfu ((qes J r.body).map (qbn r))
def qzb (body:List LitD)(is:List Nat):Prop:= ∀i,i∈is↔i<body.length
def qj1 (body:List LitD):Prop:= ∀i,i<body.length->qbm body i=1∨qbm body i=2∨qbm body i=3
def q8m (r:RuleD):Prop:= ∀x,x∈r.names->x∈q8 r.body (qaf r.body)
theorem qg1:(fun x=> ∃v,qca x=some v)=fun _=>False:=wB fun x=>propext ⟨fun⟨v,h⟩=>(by cases h),False.elim⟩
theorem qob (body:List LitD): ∀(is:List Nat) (K:ByteArray->Prop),(∀i,i∈is->qbm body i=1)->qg9 body is K:=by
 intro is
 induction is with
 |nil=>intro K _;trivial
 |cons i is ih=>
  intro K h;have b:=h i (yJ ..);unfold qbm at b;refine⟨fun d=>?_,fun c=>?_,ih _ (fun k e=>h k (yD _ e))⟩
  ·rw [b]at d;cases d
  ·rw [b]at c;cases c
theorem qde {body:List LitD}{i:Nat}(h:i∈qaf body):i<body.length/\qbm body i=1:=by
 unfold qaf at h;rw [yX,yk]at h;exact⟨h.1,by simpa using h.2⟩
theorem qgk {body:List LitD}{b:List Nat}{x:ByteArray}:x∈q8 body b↔ ∃i,i∈b/\ ¬(qbm body i=3∨qbm body i=2)/\x∈qaj (body.getD i default).atom.args:=by
 unfold q8 qbm;rw [xF];constructor
 ·rintro⟨i,hi,hx⟩;split at hx
  ·cases hx
  ·rename_i h;exact⟨i,hi,h,hx⟩
 ·rintro⟨i,hi,h,hx⟩;exact⟨i,hi,by rw [zF h];exact hx⟩
theorem qk4 {body:List LitD}{b:List Nat}(d:qzb body b)(e:qj1 body)(x:ByteArray):x∈q8 body b↔x∈q8 body (qaf body):=by
 rw [qgk,qgk];constructor
 ·rintro⟨i,hi,h,hx⟩;have c:=(d i).1 hi;refine⟨i,?_,h,hx⟩;unfold qaf;rw [yX,yk];rcases e i c with h1 |h1 |h1
  ·exact⟨c,by simpa using h1⟩
  ·exact absurd (.inr h1) h
  ·exact absurd (.inl h1) h
 ·rintro⟨i,hi,h,hx⟩;exact⟨i,(d i).2 (qde hi).1,h,hx⟩
theorem q44 {J:qbd}{body:List LitD}{b:Asg}:qi5 J body b=true↔ ∀i,i<body.length->qbm body i=2∨qbm body i=3->qgi J body b i:=by
 unfold qi5;rw [yM];unfold qgi qbm;constructor
 ·intro h i hi c;have:=h i (yk.2 hi);split at this
  ·rename_i h3;rw [zI h3]
   simpa using this
  ·rename_i h3;rw [zF h3];split at this
   ·rename_i h2;rw [zI h2]
    simpa using this
   ·rename_i h2;rcases c with c |c
    ·exact absurd c h2
    ·exact absurd c h3
 ·intro h i hi;have hi:=yk.1 hi;split
  ·rename_i h3;have:=h i hi (.inr h3);rw [zI h3]at this
   simpa using this
  ·rename_i h3;split
   ·rename_i h2;have:=h i hi (.inl h2);rw [zF h3,zI h2]at this
    simpa using this
   ·rfl
theorem qrq {J:qbd}{body:List LitD}{d:List Nat}(c:qzb body d)(g:qj1 body)(l:qg9 body d (fun _=>False))(b:Asg):b∈qbl J body d qca↔b∈qes J body:=by
 unfold qes;rw [yX,qln d qca b (by rw [qg1];exact l),qln (qaf body) qca b (by rw [qg1];exact qob _ _ _ fun i hi=>(qde hi).2),q44];constructor
 ·rintro⟨h1,h2,h3⟩;refine⟨⟨h1,fun x=>?_,fun i hi=>h3 i ((c i).2 (qde hi).1)⟩,fun i hi _=>h3 i ((c i).2 hi)⟩;rw [h2 x,qk4 c g]
 ·rintro⟨⟨h1,h2,h3⟩,h4⟩;refine⟨h1,fun x=>?_,fun i hi=>?_⟩
  ·rw [h2 x,qk4 c g]
  ·have e:=(c i).1 hi;rcases g i e with h |h |h
   ·refine h3 i ?_;unfold qaf;rw [yX,yk];exact⟨e,by simpa using h⟩
   ·exact h4 i e (.inl h)
   ·exact h4 i e (.inr h)
theorem qlw {J:qbd}{body:List LitD}{b:Asg}:b∈qes J body↔(ExtA qca b/\qir qca b (q8 body (qaf body))/\ ∀i,i∈qaf body->qgi J body b i)/\qi5 J body b=true:=by
 unfold qes;rw [yX,qln (qaf body) qca b (by rw [qg1];exact qob _ _ _ fun i hi=>(qde hi).2)]
theorem qlx {r:RuleD}{L:LitD}{t:TermD}(b:L∈r.lits)(c:t∈L.terms)(d:t.var=true):t.text∈r.names:=by
 have e: ∀(ls:List LitD) (i:Nat),L∈ls->t.text∈(qdc ls i).map (·.2):=by
  intro ls
  induction ls with
  |nil=>intro i h;cases h
  |cons M ls ih=>
   intro i h;unfold qdc;rw [zn,zr];rcases zw.1 h with rfl |h
   ·refine .inl ?_;rw [map_map];unfold LitD.uses;rw [map_map];exact yL.2 ⟨t,yX.2 ⟨c,d⟩,rfl⟩
   ·exact .inr (ih (i+1) h)
 exact e r.lits 0 b
theorem qep (l:List ByteArray)(x:ByteArray):x∈qbf l↔x∈l:=by
 have b: ∀(l acc:List ByteArray),x∈l.foldl (fun acc x=>if x∈acc then acc else acc++ [x]) acc↔x∈acc∨x∈l:=by
  intro l
  induction l with
  |nil=>intro acc;simp
  |cons y l ih=>
   intro acc;rw [foldl_cons,ih,zw];split
   ·rename_i hy;constructor
    ·rintro(h |h)
     ·exact .inl h
     ·exact .inr (.inr h)
    ·rintro(h |rfl |h)
     ·exact .inl h
     ·exact .inl hy
     ·exact .inr h
   ·rw [zr,zm,or_assoc]
 unfold qbf;rw [b];simp
theorem q45 {r:RuleD}{b c:Asg}{xs:List ByteArray}(y: ∀x,x∈xs->x∈qu r)(g:qir qca b xs)(p:qir qca c xs)(h:(qbn r b).vals=(qbn r c).vals):b=c:=by
 refine wB fun x=>?_;have e: ∀a:Asg,qir qca a xs->((∃v,a x=some v)↔x∈xs):=fun a q=>by
  rw [q x];constructor
  ·rintro(⟨v,h⟩ |h)
   ·cases h
   ·exact h
  ·exact .inr
 by_cases d:x∈xs
 ·obtain⟨v,m⟩:=(e b g).2 d;obtain⟨u,l⟩:=(e c p).2 d;have:(b x).getD ⟨#[]⟩=(c x).getD ⟨#[]⟩:=by
   unfold qbn at h;exact map_inj_left.1 h x (y x d)
  rw [m,l]at this;rw [m,l];exact yO some this
 ·cases s:b x with
  |some v=>exact absurd ((e b g).1 ⟨v,s⟩) d
  |none=>
   cases t:c x with
   |some v=>exact absurd ((e c p).1 ⟨v,t⟩) d
   |none=>rfl
theorem qqh {r:RuleD}{l:List Asg}{xs:List ByteArray}(m: ∀x,x∈xs->x∈qu r)(g: ∀b,b∈l->qir qca b xs)(e:l.Nodup):((l.map (qbn r)).map (·.vals)).Nodup:=by
 rw [map_map]
 induction l with
 |nil=>simp
 |cons b l ih=>
  rw [xU]at e;rw [yZ,xU];refine⟨fun h=>?_,ih (fun c d=>g c (yD _ d)) e.2⟩;obtain⟨c,d,p⟩:=yL.1 h;have:=q45 m (g c (yD _ d)) (g b (yJ ..)) p;subst this;exact e.1 d
theorem qsj {r:RuleD}{x:ByteArray}(h:x∈q8 r.body (qaf r.body)):x∈qu r:=by
 obtain⟨i,hi,-,e⟩:=qgk.1 h;obtain⟨d,c⟩:=qde hi;unfold qbm at c;unfold qaj at e;obtain⟨t,b,rfl⟩:=yL.1 e;rw [yX]at b;unfold qu;rw [qep];have g:r.body.getD i default=r.body[i]:=by rw [zJ,zB d];rfl
 refine qlx (L:=r.body.getD i default) ?_ ?_ b.2
 ·rw [g];exact yD _ (xG d)
 ·unfold LitD.terms;rw [zI (.inl c)];exact b.1
theorem qx4 {J:qbd}{r:RuleD}{d:List Nat}(s: ∀i,(J.pos i).Nodup)(h:qzb r.body d)(l:qj1 r.body)(e:qg9 r.body d (fun _=>False)):
  qfu ((qbl J r.body d qca).map (qbn r))=qeo J r:=by
 have hd: ∀b,b∈qes J r.body->qir qca b (q8 r.body (qaf r.body)):=fun b c=>(qlw.1 c).1.2.1;have p:(qbl J r.body d qca).Nodup:=qn3 s d qca (by rw [qg1];exact e);have g:(qes J r.body).Nodup:=List.Pairwise.filter _ (qn3 s _ qca (by rw [qg1];exact qob _ _ _ fun i hi=>(qde hi).2));unfold qeo;refine q1x (qqh (fun x q=>qsj q) (fun b c=>hd b ((qrq h l e b).1 c)) p) (qqh (fun x q=>qsj q) hd g) fun m=>?_;rw [yL,yL];constructor
 ·rintro⟨b,c,rfl⟩;exact⟨b,(qrq h l e b).1 c,rfl⟩
 ·rintro⟨b,c,rfl⟩;exact⟨b,(qrq h l e b).2 c,rfl⟩
end Go.Ink
