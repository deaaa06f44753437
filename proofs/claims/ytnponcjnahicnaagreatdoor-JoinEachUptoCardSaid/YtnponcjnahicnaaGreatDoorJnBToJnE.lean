/- Parts of the proof. -/
import Derived.Test.YtnponcjnahicnaaGreatDoorStandsToJnA
set_option linter.unusedSimpArgs false
set_option linter.unusedVariables false
open List(all_cons filter_nil filter_sublist foldl_cons getElem?_cons_succ getElem?_cons_zero getElem?_set_ne getElem?_set_self length_cons length_erase_of_mem length_flatMap length_pos_of_mem map_const' map_inj_left map_map mem_erase_of_ne mem_map_of_mem pairwise_cons sum_replicate_nat)
namespace Go.Ink
def ltL:List Nat->List Nat->Bool
 | [],[]=>false
 | [],_::_=>true
 |_::_,[]=>false
 |x::xs,y::ys=>if x<y then true else if y<x then false else ltL xs ys
theorem qqe: ∀a,ltL a a=false:=by
 intro a
 induction a with
 |nil=>rfl
 |cons x xs ih=>unfold ltL;rw [zF wA,zF wA];exact ih
theorem qsb: ∀{a b c:List Nat},ltL a b=true->ltL b c=true->ltL a c=true:=by
 intro a
 induction a with
 |nil=>
  intro b c h g;cases b with
  |nil=>cases h
  |cons y ys=>
   cases c with
   |nil=>cases g
   |cons z zs=>rfl
 |cons x xs ih=>
  intro b c h g;cases b with
  |nil=>cases h
  |cons y ys=>
   cases c with
   |nil=>cases g
   |cons z zs=>
    unfold ltL at h g⊢;by_cases m:x<y
    ·by_cases e:y<z
     ·rw [zI wA]
     ·rw [zF e]at g;by_cases d:z<y
      ·rw [zI d]at g;cases g
      ·rw [zI wA]
    ·rw [zF m]at h;by_cases l:y<x
     ·rw [zI l]at h;cases h
     ·rw [zF l]at h;by_cases e:y<z
      ·rw [zI wA]
      ·rw [zF e]at g;by_cases d:z<y
       ·rw [zI d]at g;cases g
       ·rw [zF d]at g;rw [zF wA,zF wA];exact ih h g
theorem q2g: ∀{a b:List Nat},ltL a b=false->ltL b a=false->a=b:=by
 intro a
 induction a with
 |nil=>
  intro b h g;cases b with
  |nil=>rfl
  |cons y ys=>cases h
 |cons x xs ih=>
  intro b h g;cases b with
  |nil=>cases g
  |cons y ys=>
   unfold ltL at h g;by_cases c:x<y
   ·rw [zI c]at h;cases h
   ·by_cases d:y<x
    ·rw [zI d]at g;cases g
    ·rw [zF c,zF d]at h;rw [zF d,zF c]at g;have:x=y:=by omega
     rw [this,ih h g]
def qqf (s:ByteArray):List Nat:=s.data.toList.map UInt8.toNat
theorem q2h {a b:ByteArray}(h:qqf a=qqf b):a=b:=by
 unfold qqf at h;have:=(List.map_inj_right (fun x y h=>UInt8.toNat_inj.1 h)).1 h;cases a;cases b
 congr
 exact Array.toList_inj.1 this
def ltS (a b:ByteArray):Bool:=ltL (qqf a) (qqf b)
def ltR:List ByteArray->List ByteArray->Bool
 | [],[]=>false
 | [],_::_=>true
 |_::_,[]=>false
 |x::xs,y::ys=>if ltS x y=true then true else if ltS y x=true then false else ltR xs ys
theorem ql0 (a:ByteArray):ltS a a=false:=qqe _
theorem qi9 {a b:ByteArray}(h:ltS a b=false)(g:ltS b a=false):a=b:=q2h (q2g h g)
theorem q2i {a b c:ByteArray}(h:ltS a b=true)(g:ltS b c=true):ltS a c=true:=qsb h g
theorem qsc {a b:ByteArray}(h:ltS a b=true):ltS b a=false:=by
 cases g:ltS b a with
 |false=>rfl
 |true=>
  have:=qsb h g;rw [qqe]at this;cases this
theorem qhb: ∀a,ltR a a=false:=by
 intro a
 induction a with
 |nil=>rfl
 |cons x xs ih=>
  unfold ltR;rw [ql0,zF wC,zF wC];exact ih
theorem qsd: ∀{a b c:List ByteArray},ltR a b=true->ltR b c=true->ltR a c=true:=by
 intro a
 induction a with
 |nil=>
  intro b c h g;cases b with
  |nil=>cases h
  |cons y ys=>
   cases c with
   |nil=>cases g
   |cons z zs=>rfl
 |cons x xs ih=>
  intro b c h g;cases b with
  |nil=>cases h
  |cons y ys=>
   cases c with
   |nil=>cases g
   |cons z zs=>
    unfold ltR at h g⊢;by_cases m:ltS x y=true
    ·by_cases d:ltS y z=true
     ·rw [zI (q2i m d)]
     ·rw [zF d]at g;by_cases l:ltS z y=true
      ·rw [zI l]at g;cases g
      ·have e:y=z:=qi9 (by simpa using d) (by simpa using l);subst e;rw [zI m]
    ·rw [zF m]at h;by_cases p:ltS y x=true
     ·rw [zI p]at h;cases h
     ·rw [zF p]at h;have e:x=y:=qi9 (by simpa using m) (by simpa using p);subst e;by_cases d:ltS x z=true
      ·rw [zI d]
      ·rw [zF d]at g;by_cases l:ltS z x=true
       ·rw [zI l]at g;cases g
       ·rw [zF l]at g;rw [zF d,zF l];exact ih h g
theorem qse: ∀{a b:List ByteArray},ltR a b=false->ltR b a=false->a=b:=by
 intro a
 induction a with
 |nil=>
  intro b h g;cases b with
  |nil=>rfl
  |cons y ys=>cases h
 |cons x xs ih=>
  intro b h g;cases b with
  |nil=>cases g
  |cons y ys=>
   unfold ltR at h g;by_cases c:ltS x y=true
   ·rw [zI c]at h;cases h
   ·by_cases d:ltS y x=true
    ·rw [zI d]at g;cases g
    ·rw [zF c,zF d]at h;rw [zF d,zF c]at g;have e:x=y:=qi9 (by simpa using c) (by simpa using d);rw [e,ih h g]
theorem q2j {a b:List ByteArray}(h:ltR a b=true):ltR b a=false:=by
 cases g:ltR b a with
 |false=>rfl
 |true=>
  have:=qsd h g;rw [qhb]at this;cases this
structure qac where
 head:List ByteArray
 vals:List ByteArray
 deriving DecidableEq,Inhabited
def qcw:List qac->qac->List qac
 | [],m=> [m]
 |x::xs,m=>if ltR x.vals m.vals=true then x::qcw xs m else m::x::xs
def qd3 (l:List qac):List qac:=l.foldl qcw []
def qhc (l:List qac):Prop:=l.Pairwise fun x y=>ltR x.vals y.vals=true
theorem qrl {l:List qac}{m x:qac}:x∈qcw l m↔x∈l∨x=m:=by
 induction l with
 |nil=>unfold qcw;simp
 |cons y ys ih=>
  unfold qcw;split
  ·rw [zw,ih,zw,or_assoc]
  ·rw [zw,zw];constructor
   ·rintro(h |h |h)
    ·exact .inr h
    ·exact .inl (.inl h)
    ·exact .inl (.inr h)
   ·rintro((h |h) |h)
    ·exact .inr (.inl h)
    ·exact .inr (.inr h)
    ·exact .inl h
theorem qx8 (l:List qac)(m:qac):(qcw l m).length=l.length+1:=by
 induction l with
 |nil=>rfl
 |cons y ys ih=>
  unfold qcw;split
  ·rw [length_cons,ih,length_cons]
  ·rfl
theorem q5r {l:List qac}{m:qac}(h:qhc l)(d: ∀x,x∈l->x.vals≠m.vals):qhc (qcw l m):=by
 induction l with
 |nil=>unfold qcw qhc;simp
 |cons y ys ih=>
  unfold qhc at h;rw [pairwise_cons]at h;unfold qcw;split
  ·rename_i hy;unfold qhc;rw [pairwise_cons];refine⟨fun x b=>?_,ih h.2 (fun x b=>d x (yD _ b))⟩;rcases qrl.1 b with b |rfl
   ·exact h.1 x b
   ·exact hy
  ·rename_i hy;have c:ltR m.vals y.vals=true:=by
    cases g:ltR m.vals y.vals with
    |true=>rfl
    |false=>exact absurd (qse (by simpa using hy) g) (d y (yJ ..))
   unfold qhc;rw [pairwise_cons];refine⟨fun x b=>?_,pairwise_cons.2 h⟩;rcases zw.1 b with rfl |b
   ·exact c
   ·exact qsd c (h.1 x b)
theorem qx9 {l:List qac}: ∀{acc:List qac},(∀x,x∈l.foldl qcw acc↔x∈acc∨x∈l)/\(l.foldl qcw acc).length=acc.length+l.length:=by
 induction l with
 |nil=>intro acc;simp
 |cons m l ih=>
  intro acc;obtain⟨b,c⟩:=ih (acc:=qcw acc m);refine⟨fun x=>?_,?_⟩
  ·rw [foldl_cons,b,qrl,zw,or_assoc]
  ·rw [foldl_cons,c,qx8,length_cons];omega
theorem qj1 {l:List qac}{x:qac}:x∈qd3 l↔x∈l:=by
 unfold qd3;rw [qx9.1];simp
theorem qg0 (l:List qac):(qd3 l).length=l.length:=by
 unfold qd3;rw [qx9.2];simp
theorem qum {l:List qac}: ∀{acc:List qac},qhc acc->(l.map (·.vals)).Nodup->(∀x,x∈acc->x.vals∉l.map (·.vals))->qhc (l.foldl qcw acc):=by
 induction l with
 |nil=>intro acc h _ _;exact h
 |cons m l ih=>
  intro acc h c hd;rw [yX,xS]at c;refine ih (q5r h (fun x b e=>hd x b (by rw [e];exact yJ ..))) c.2 (fun x b d=>?_);rcases qrl.1 b with b |rfl
  ·exact hd x b (yD _ d)
  ·exact c.1 d
theorem qkn {l:List qac}(h:(l.map (·.vals)).Nodup):qhc (qd3 l):=qum List.Pairwise.nil h (fun x b=>by cases b)
theorem q2k: ∀{l k:List qac},qhc l->qhc k->(∀x,x∈l↔x∈k)->l=k:=by
 intro l
 induction l with
 |nil=>
  intro k _ _ h;cases k with
  |nil=>rfl
  |cons y ys=>exact absurd ((h y).2 (yJ ..)) wC
 |cons x xs ih=>
  intro k d c h;cases k with
  |nil=>exact absurd ((h x).1 (yJ ..)) wC
  |cons y ys=>
   unfold qhc at d c;rw [pairwise_cons]at d c;have e:x=y:=by
    rcases zw.1 ((h x).1 (yJ ..)) with e |hx
    ·exact e
    ·rcases zw.1 ((h y).2 (yJ ..)) with e |hy
     ·exact e.symm
     ·have b:=c.1 x hx;have p:=d.1 y hy;rw [q2j b]at p;cases p
   subst e
   congr 1
   refine ih d.2 c.2 fun z=>?_;have m:=h z;rw [zw,zw]at m;constructor
   ·intro g;rcases m.1 (.inr g) with rfl |b
    ·have:=d.1 z g;rw [qhb]at this;cases this
    ·exact b
   ·intro g;rcases m.2 (.inr g) with rfl |b
    ·have:=c.1 z g;rw [qhb]at this;cases this
    ·exact b
theorem q2l {l k:List qac}(c:(l.map (·.vals)).Nodup)(b:(k.map (·.vals)).Nodup)(h: ∀x,x∈l↔x∈k):qd3 l=qd3 k:=
 q2k (qkn c) (qkn b) (fun x=>by rw [qj1,qj1,h])
def qu (r:RuleD):List ByteArray:=qa9 r.names
def qbl (r:RuleD)(b:Asg):qac:=⟨r.head.args.map (qa2 b),(qu r).map fun x=>(b x).getD ⟨#[]⟩⟩
def qbg (body:List LitD)(i:Nat):Int:=(body.getD i default).kind
def qao (body:List LitD):List Nat:=(List.range body.length).filter fun i=>qbg body i==1
def qi4 (J:qa7)(body:List LitD)(b:Asg):Bool:=
 (List.range body.length).all fun i=>if qbg body i=3 then qab b (body.getD i default).left !=qab b (body.getD i default).right
  else if qbg body i=2 then !decide ((body.getD i default).atom.args.map (qa2 b)∈J.neg i) else true
def qem (J:qa7)(body:List LitD):List Asg:=(qbe J body (qao body) qb1).filter (qi4 J body)
def qd0 (J:qa7)(r:RuleD):List qac:=qd3 ((qem J r.body).map (qbl r))
def qzx (body:List LitD)(is:List Nat):Prop:= ∀i,i∈is↔i<body.length
def qj2 (body:List LitD):Prop:= ∀i,i<body.length->qbg body i=1∨qbg body i=2∨qbg body i=3
def q87 (r:RuleD):Prop:= ∀x,x∈r.names->x∈q8 r.body (qao r.body)
theorem qf8:(fun x=> ∃v,qb1 x=some v)=fun _=>False:=xz fun x=>propext ⟨fun⟨v,h⟩=>(by cases h),False.elim⟩
theorem qlf (body:List LitD): ∀(is:List Nat) (K:ByteArray->Prop),(∀i,i∈is->qbg body i=1)->qg5 body is K:=by
 intro is
 induction is with
 |nil=>intro K _;trivial
 |cons i is ih=>
  intro K h;have b:=h i (yJ ..);unfold qbg at b;refine⟨fun d=>?_,fun c=>?_,ih _ (fun k e=>h k (yD _ e))⟩
  ·rw [b]at d;cases d
  ·rw [b]at c;cases c
theorem qc9 {body:List LitD}{i:Nat}(h:i∈qao body):i<body.length/\qbg body i=1:=by
 unfold qao at h;rw [yV,yi]at h;exact⟨h.1,by simpa using h.2⟩
theorem qgl {body:List LitD}{b:List Nat}{x:ByteArray}:x∈q8 body b↔ ∃i,i∈b/\ ¬(qbg body i=3∨qbg body i=2)/\x∈qal (body.getD i default).atom.args:=by
 unfold q8 qbg;rw [xD];constructor
 ·rintro⟨i,hi,hx⟩;split at hx
  ·cases hx
  ·rename_i h;exact⟨i,hi,h,hx⟩
 ·rintro⟨i,hi,h,hx⟩;exact⟨i,hi,by rw [zF h];exact hx⟩
theorem qk7 {body:List LitD}{d:List Nat}(b:qzx body d)(e:qj2 body)(x:ByteArray):x∈q8 body d↔x∈q8 body (qao body):=by
 rw [qgl,qgl];constructor
 ·rintro⟨i,hi,h,hx⟩;have c:=(b i).1 hi;refine⟨i,?_,h,hx⟩;unfold qao;rw [yV,yi];rcases e i c with h1 |h1 |h1
  ·exact⟨c,by simpa using h1⟩
  ·exact absurd (.inr h1) h
  ·exact absurd (.inl h1) h
 ·rintro⟨i,hi,h,hx⟩;exact⟨i,(b i).2 (qc9 hi).1,h,hx⟩
theorem q5s {J:qa7}{body:List LitD}{b:Asg}:qi4 J body b=true↔ ∀i,i<body.length->qbg body i=2∨qbg body i=3->qgf J body b i:=by
 unfold qi4;rw [yM];unfold qgf qbg;constructor
 ·intro h i hi c;have:=h i (yi.2 hi);split at this
  ·rename_i h3;rw [zI h3]
   simpa using this
  ·rename_i h3;rw [zF h3];split at this
   ·rename_i h2;rw [zI h2]
    simpa using this
   ·rename_i h2;rcases c with c |c
    ·exact absurd c h2
    ·exact absurd c h3
 ·intro h i hi;have hi:=yi.1 hi;split
  ·rename_i h3;have:=h i hi (.inr h3);rw [zI h3]at this
   simpa using this
  ·rename_i h3;split
   ·rename_i h2;have:=h i hi (.inl h2);rw [zF h3,zI h2]at this
    simpa using this
   ·rfl
theorem qrm {J:qa7}{body:List LitD}{e:List Nat}(c:qzx body e)(g:qj2 body)(l:qg5 body e (fun _=>False))(b:Asg):b∈qbe J body e qb1↔b∈qem J body:=by
 unfold qem;rw [yV,qlm e qb1 b (by rw [qf8];exact l),qlm (qao body) qb1 b (by rw [qf8];exact qlf _ _ _ fun i hi=>(qc9 hi).2),q5s];constructor
 ·rintro⟨h1,h2,h3⟩;refine⟨⟨h1,fun x=>?_,fun i hi=>h3 i ((c i).2 (qc9 hi).1)⟩,fun i hi _=>h3 i ((c i).2 hi)⟩;rw [h2 x,qk7 c g]
 ·rintro⟨⟨h1,h2,h3⟩,h4⟩;refine⟨h1,fun x=>?_,fun i hi=>?_⟩
  ·rw [h2 x,qk7 c g]
  ·have d:=(c i).1 hi;rcases g i d with h |h |h
   ·refine h3 i ?_;unfold qao;rw [yV,yi];exact⟨d,by simpa using h⟩
   ·exact h4 i d (.inl h)
   ·exact h4 i d (.inr h)
theorem qjl {J:qa7}{body:List LitD}{b:Asg}:b∈qem J body↔(ExtA qb1 b/\qin qb1 b (q8 body (qao body))/\ ∀i,i∈qao body->qgf J body b i)/\qi4 J body b=true:=by
 unfold qem;rw [yV,qlm (qao body) qb1 b (by rw [qf8];exact qlf _ _ _ fun i hi=>(qc9 hi).2)]
theorem ql1 {r:RuleD}{L:LitD}{t:TermD}(c:L∈r.lits)(d:t∈L.terms)(e:t.var=true):t.text∈r.names:=by
 have b: ∀(ls:List LitD) (i:Nat),L∈ls->t.text∈(qc8 ls i).map (·.2):=by
  intro ls
  induction ls with
  |nil=>intro i h;cases h
  |cons M ls ih=>
   intro i h;unfold qc8;rw [zn,zr];rcases zw.1 h with rfl |h
   ·refine .inl ?_;rw [map_map];unfold LitD.uses;rw [map_map];exact yL.2 ⟨t,yV.2 ⟨d,e⟩,rfl⟩
   ·exact .inr (ih (i+1) h)
 exact b r.lits 0 c
theorem qeh (l:List ByteArray)(x:ByteArray):x∈qa9 l↔x∈l:=by
 have b: ∀(l acc:List ByteArray),x∈l.foldl (fun acc x=>if x∈acc then acc else acc++ [x]) acc↔x∈acc∨x∈l:=by
  intro l
  induction l with
  |nil=>intro acc;simp
  |cons y l ih=>
   intro acc;rw [foldl_cons,ih,zw];split
   ·rename_i hy;constructor
    ·rintro(h |h)
     ·exact .inl h
     ·exact .inr (.inr h)
    ·rintro(h |rfl |h)
     ·exact .inl h
     ·exact .inl hy
     ·exact .inr h
   ·rw [zr,zm,or_assoc]
 unfold qa9;rw [b];simp
theorem q5t {r:RuleD}{b c:Asg}{xs:List ByteArray}(y: ∀x,x∈xs->x∈qu r)(g:qin qb1 b xs)(l:qin qb1 c xs)(h:(qbl r b).vals=(qbl r c).vals):b=c:=by
 refine xz fun x=>?_;have e: ∀a:Asg,qin qb1 a xs->((∃v,a x=some v)↔x∈xs):=fun a t=>by
  rw [t x];constructor
  ·rintro(⟨v,h⟩ |h)
   ·cases h
   ·exact h
  ·exact .inr
 by_cases d:x∈xs
 ·obtain⟨v,p⟩:=(e b g).2 d;obtain⟨u,m⟩:=(e c l).2 d;have:(b x).getD ⟨#[]⟩=(c x).getD ⟨#[]⟩:=by
   unfold qbl at h;exact map_inj_left.1 h x (y x d)
  rw [p,m]at this;rw [p,m];exact yN some this
 ·cases q:b x with
  |some v=>exact absurd ((e b g).1 ⟨v,q⟩) d
  |none=>
   cases s:c x with
   |some v=>exact absurd ((e c l).1 ⟨v,s⟩) d
   |none=>rfl
theorem ql2 {r:RuleD}{l:List Asg}{xs:List ByteArray}(p: ∀x,x∈xs->x∈qu r)(e: ∀b,b∈l->qin qb1 b xs)(g:l.Nodup):((l.map (qbl r)).map (·.vals)).Nodup:=by
 rw [map_map]
 induction l with
 |nil=>simp
 |cons b l ih=>
  rw [xS]at g;rw [yX,xS];refine⟨fun m=>?_,ih (fun c d=>e c (yD _ d)) g.2⟩;obtain⟨c,d,h⟩:=yL.1 m;have:=q5t p (e c (yD _ d)) (e b (yJ ..)) h;subst this;exact g.1 d
theorem qnh {r:RuleD}{x:ByteArray}(h:x∈q8 r.body (qao r.body)):x∈qu r:=by
 obtain⟨i,hi,-,e⟩:=qgl.1 h;obtain⟨d,c⟩:=qc9 hi;unfold qbg at c;unfold qal at e;obtain⟨t,b,rfl⟩:=yL.1 e;rw [yV]at b;unfold qu;rw [qeh];have g:r.body.getD i default=r.body[i]:=by rw [zJ,zB d];rfl
 refine ql1 (L:=r.body.getD i default) ?_ ?_ b.2
 ·rw [g];exact yD _ (xE d)
 ·unfold LitD.terms;rw [zI (.inl c)];exact b.1
theorem q7v {J:qa7}{r:RuleD}{d:List Nat}(s: ∀i,(J.pos i).Nodup)(g:qzx r.body d)(h:qj2 r.body)(e:qg5 r.body d (fun _=>False)):
  qd3 ((qbe J r.body d qb1).map (qbl r))=qd0 J r:=by
 have hd: ∀b,b∈qem J r.body->qin qb1 b (q8 r.body (qao r.body)):=fun b c=>(qjl.1 c).1.2.1;have l:(qbe J r.body d qb1).Nodup:=qkw s d qb1 (by rw [qf8];exact e);have p:(qem J r.body).Nodup:=List.Pairwise.filter _ (qkw s _ qb1 (by rw [qf8];exact qlf _ _ _ fun i hi=>(qc9 hi).2));unfold qd0;refine q2l (ql2 (fun x q=>qnh q) (fun b c=>hd b ((qrm g h e b).1 c)) l) (ql2 (fun x q=>qnh q) hd p) fun m=>?_;rw [yL,yL];constructor
 ·rintro⟨b,c,rfl⟩;exact⟨b,(qrm g h e b).1 c,rfl⟩
 ·rintro⟨b,c,rfl⟩;exact⟨b,(qrm g h e b).2 c,rfl⟩
structure qj where
 pred:ByteArray
 tuple:List ByteArray
 deriving DecidableEq,Inhabited
def qv (c:List qj)(p:ByteArray)(n:Nat):List (List ByteArray):=(c.filter fun f=>decide (f.pred=p/\f.tuple.length=n)).map (·.tuple)
theorem qiv (c d:List qj)(p:ByteArray)(n:Nat):qv (c++d) p n=qv c p n++qv d p n:=by
 unfold qv;rw [yT,zn]
theorem qcr {c:List qj}{p:ByteArray}{n:Nat}{t:List ByteArray}:t∈qv c p n↔(⟨p,t⟩:qj)∈c/\t.length=n:=by
 unfold qv;rw [yL];constructor
 ·rintro⟨f,hf,rfl⟩;rw [yV]at hf;obtain⟨d,b⟩:=hf;obtain⟨b,e⟩:=yE b;obtain⟨g,h⟩:=f;simp only at b;subst b;exact⟨d,e⟩
 ·rintro⟨d,b⟩;exact⟨⟨p,t⟩,yV.2 ⟨d,zS ⟨rfl,b⟩⟩,rfl⟩
theorem ql3 {c:List qj}(h:c.Nodup)(p:ByteArray)(n:Nat):(qv c p n).Nodup:=by
 induction c with
 |nil=>simp [qv]
 |cons f c ih=>
  rw [xS]at h;have e:f::c= [f]++c:=rfl;rw [e,qiv,xW];refine⟨?_,ih h.2,fun a l b m q=>?_⟩
  ·unfold qv;rw [ye];split<;>simp
  ·subst q;obtain⟨d,-⟩:=qcr.1 l;obtain⟨g,-⟩:=qcr.1 m;rw [zm]at d;rw [←d]at h;exact h.1 g
theorem ql4 (c:List qj)(p:ByteArray)(n:Nat):(qv c p n).length<=c.length:=by
 unfold qv;rw [zL];exact yd _ _
theorem qpa (f:qj)(p:ByteArray)(n:Nat):qv [f] p n=if f.pred=p/\f.tuple.length=n then [f.tuple] else []:=by
 unfold qv;by_cases h:f.pred=p/\f.tuple.length=n
 ·rw [zI h,xV (by simpa using h)]
  rfl
 ·rw [zF h,xf (by simpa using h)]
  rfl
def qen (ok:qj->Bool)(c:List qj)(f:qj):List qj:=if ok f=true/\f∉c then c++ [f] else c
def qc6 (ok:qj->Bool)(l:List qj):List qj:=l.foldl (qen ok) []
theorem q5u (b:qj->Bool)(c:List qj)(f:qj):(qen b c f).length<=c.length+1:=by
 unfold qen;split
 ·simp
 ·omega
theorem q7w {d:qj->Bool}{c:List qj}(h: ∀f,f∈c->d f=true)(f:qj): ∀g,g∈qen d c f->d g=true:=by
 unfold qen;split
 ·rename_i hf;intro g b;rcases zr.1 b with b |b
  ·exact h g b
  ·rw [zm]at b;rw [b];exact hf.1
 ·exact h
theorem q2m (b:qj->Bool)(l:List qj): ∀c,(l.foldl (qen b) c).length<=c.length+l.length:=by
 induction l with
 |nil=>intro c;simp
 |cons f l ih=>
  intro c;rw [foldl_cons,length_cons];have:=ih (qen b c f);have:=q5u b c f;omega
def qcx (body:List LitD)(pos:Nat->List qj)(neg:List qj):qa7 where
 pos i:=qv (pos i) (body.getD i default).atom.pred (body.getD i default).atom.args.length
 neg i:=qv neg (body.getD i default).atom.pred (body.getD i default).atom.args.length
theorem qya {ts:List TermD}: ∀{a:Asg} {xs:List ByteArray},ts.length≠xs.length->qbb a ts xs=none:=by
 induction ts with
 |nil=>
  intro a xs h;cases xs with
  |nil=>exact absurd rfl h
  |cons x xs=>rfl
 |cons t ts ih=>
  intro a xs h;cases xs with
  |nil=>rfl
  |cons x xs=>
   rw [length_cons,length_cons]at h;unfold qbb;split
   ·split
    ·exact ih wA
    ·rfl
   ·exact ih wA
theorem q5v (c:List qj)(p:ByteArray)(ts:List TermD)(a:Asg){β:Type}(g:Asg->List β):
  ((c.filter fun f=>decide (f.pred=p)).flatMap fun f=>match qbb a ts f.tuple with |some a'=>g a' |none=> [])=
  (qv c p ts.length).flatMap fun t=>match qbb a ts t with |some a'=>g a' |none=> []:=by
 induction c with
 |nil=>rfl
 |cons f c ih=>
  have e:f::c= [f]++c:=rfl;rw [e,qiv,yG,yT,yG,ih,qpa]
  congr 1
  by_cases b:f.pred=p
  ·rw [xV (by simpa using b),filter_nil,yF,xn,yP];by_cases d:f.tuple.length=ts.length
   ·rw [zI ⟨b,d⟩,yF,xn,yP]
   ·rw [zF (fun h=>d h.2),qya (fun h=>d h.symm)]
    rfl
  ·rw [xf (by simpa using b),filter_nil,xn,zF (fun h=>b h.1),xn]
def qav (a:Asg):List TermD->Nat->List (Nat×ByteArray)
 | [],_=> []
 |t::ts,k=>match qab a t with
  |some y=>(k,y)::qav a ts (k+1)
  |none=>qav a ts (k+1)
def qjm (a:Asg)(ts:List TermD):List Int:=(qav a ts 0).map fun p=>(p.1:Int)
def qpb (a:Asg)(ts:List TermD):List ByteArray:=(qav a ts 0).map (·.2)
theorem q2n (a:Asg)(b:List TermD): ∀(ts:List TermD) (k:Nat),qav a (ts++b) k=qav a ts k++qav a b (k+ts.length):=by
 intro ts
 induction ts with
 |nil=>intro k;rfl
 |cons t ts ih=>
  intro k;have e:qav a (t::ts++b) k=match qab a t with
   |some y=>(k,y)::qav a (ts++b) (k+1)
   |none=>qav a (ts++b) (k+1):=rfl
  have c:qav a (t::ts) k=match qab a t with
   |some y=>(k,y)::qav a ts (k+1)
   |none=>qav a ts (k+1):=rfl
  rw [e,c,ih,length_cons,show k+1+ts.length=k+(ts.length+1) from wA];split<;>simp
theorem qzy (a:Asg)(ts:List TermD){k:Nat}{t:TermD}(h:ts[k]?=some t):qav a (ts.take (k+1)) 0=qav a (ts.take k) 0++(match qab a t with |some y=> [(k,y)] |none=> []):=by
 have b:=(zA.1 h).1;rw [zh,h,q2n,yC,xQ wA,zD]
 rfl
theorem qni {a:Asg}: ∀{ts:List TermD} {k:Nat} {p:Nat×ByteArray},p∈qav a ts k->k<=p.1/\p.1<k+ts.length:=by
 intro ts
 induction ts with
 |nil=>intro k p h;cases h
 |cons t ts ih=>
  intro k p h;unfold qav at h;rw [length_cons];split at h
  ·rcases zw.1 h with rfl |h
   ·simp only;omega
   ·have:=ih h;omega
  ·have:=ih h;omega
theorem qzz {a:Asg}: ∀{ts:List TermD} {k:Nat},(qav a ts k).Pairwise fun p q=>p.1<q.1:=by
 intro ts
 induction ts with
 |nil=>intro k;exact List.Pairwise.nil
 |cons t ts ih=>
  intro k;unfold qav;split
  ·rw [pairwise_cons];refine⟨fun q b=>?_,ih⟩;have:=qni b;simp only;omega
  ·exact ih
theorem qnj (a:Asg): ∀(ts:List TermD) (k:Nat),(qav a ts k).length<=ts.length:=by
 intro ts
 induction ts with
 |nil=>intro k;simp [qav]
 |cons t ts ih=>
  intro k;unfold qav;have:=ih (k+1);split
  ·rw [length_cons,length_cons];omega
  ·rw [length_cons];omega
def qj3 (a:Asg):List TermD->List ByteArray->Bool
 |t::ts,x::xs=>(match qab a t with |some y=>decide (y=x) |none=>true)&&qj3 a ts xs
 |_,_=>true
theorem q2o {a:Asg}: ∀{ts:List TermD} {xs:List ByteArray} {k:Nat},ts.length=xs.length->qj3 a ts xs=(qav a ts k).all fun p=>decide (xs[p.1-k]?=some p.2):=by
 intro ts
 induction ts with
 |nil=>intro xs k h;rfl
 |cons t ts ih=>
  intro xs k h;cases xs with
  |nil=>cases h
  |cons x xs=>
   rw [length_cons,length_cons]at h;have e:((qav a ts (k+1)).all fun p=>decide (xs[p.1-(k+1)]?=some p.2))=(qav a ts (k+1)).all fun p=>decide ((x::xs)[p.1-k]?=some p.2):=by
    rw [yu,yM,yM];refine forall_congr' fun p=>forall_congr' fun d=>?_;have:=qni d;rw [show p.1-k=(p.1-(k+1))+1 from wA,getElem?_cons_succ]
   unfold qj3 qav;rw [ih (k:=k+1) wA,e];split
   ·rename_i y hy;rw [all_cons,xY,getElem?_cons_zero]
    congr 1
    by_cases b:y=x
    ·rw [b];simp
    ·rw [zM b,zM];intro c;cases c;exact b rfl
   ·rw [yU]
theorem q7x {ts:List TermD}: ∀{a b:Asg} {xs:List ByteArray},ExtA b a->qj3 b ts xs=false->qbb a ts xs=none:=by
 induction ts with
 |nil=>intro a b xs _ h;unfold qj3 at h;cases h
 |cons t ts ih=>
  intro a b xs c h;cases xs with
  |nil=>rfl
  |cons x xs=>
   unfold qj3 at h;rw [Bool.and_eq_false_iff]at h;unfold qbb;split
   ·rename_i y hy;split
    ·rename_i he;subst he;rcases h with h |h
     ·exfalso;split at h
      ·rename_i z hz;have:=qkd c hz;rw [hy]at this;cases this;simp at h
      ·cases h
     ·exact ih c h
    ·rfl
   ·rename_i hy;obtain⟨-,d⟩:=qn8 hy;rcases h with h |h
    ·exfalso;split at h
     ·rename_i z hz;have:=qkd c hz;rw [hy]at this;cases this
     ·cases h
    ·exact ih (c.trans (qv4 d)) h
theorem q2p {α:Type}[DecidableEq α]: ∀{l m:List α},l.Nodup->(∀x,x∈l->x∈m)->l.length<=m.length:=by
 intro l
 induction l with
 |nil=>intro m _ _;simp
 |cons x l ih=>
  intro m b h;rw [xS]at b;have c:=h x (yJ ..);have:=ih (m:=m.erase x) b.2 (fun y d=>by
   refine(mem_erase_of_ne (fun e=>?_)).2 (h y (yD _ d));subst e;exact b.1 d)
  rw [length_erase_of_mem c]at this;have g:=length_pos_of_mem c;rw [length_cons];omega
def qpc (T:List ByteArray):Nat->List (List ByteArray)
 |0=> [[]]
 |n+1=>T.flatMap fun t=>(qpc T n).map (t:: ·)
theorem q5w (T:List ByteArray): ∀n,(qpc T n).length=T.length^n:=by
 intro n
 induction n with
 |zero=>rfl
 |succ n ih=>
  unfold qpc;rw [length_flatMap];have:(T.map fun t=>((qpc T n).map (t:: ·)).length)=T.map fun _=>T.length^n:=xA fun t _=>by rw [zL,ih]
  rw [this,map_const',sum_replicate_nat,Nat.pow_succ,xL]
theorem q5x {T:List ByteArray}: ∀{r:List ByteArray},(∀x,x∈r->x∈T)->r∈qpc T r.length:=by
 intro r
 induction r with
 |nil=>intro _;exact zm.2 rfl
 |cons x r ih=>
  intro h;rw [length_cons];unfold qpc;exact xD.2 ⟨x,h x (yJ ..),yL.2 ⟨r,ih (fun y b=>h y (yD _ b)),rfl⟩⟩
def qo (l:List ByteArray)(s:ByteArray):List ByteArray:=if s∈l then l else l++ [s]
def qqg (l:List ByteArray)(f:qj):List ByteArray:=f.tuple.foldl qo l
def qcs:List qj->List ByteArray->List ByteArray
 | [],l=>l
 |f::fs,l=>if l.length<=400 then qcs fs (qqg l f) else l
def qfn (r:RuleD):List ByteArray:=((q8 r.body (qao r.body))).foldl qo []
def qf2 (many:Nat):List ByteArray->Nat->Bool
 | [],_=>false
 |_::xs,n=>if 20000<n*many then true else qf2 many xs (n*many)
def qeu (r:RuleD)(many:Nat):Bool:=qf2 many (qfn r) 1
def qhd (r:RuleD)(l:List qj):Bool:=if 400<l.length then true else decide (400<(qcs l []).length) ||qeu r (qcs l []).length
theorem qev {x:ByteArray}: ∀{ts l:List ByteArray},x∈ts.foldl qo l↔x∈l∨x∈ts:=by
 intro ts
 induction ts with
 |nil=>intro l;simp
 |cons t ts ih=>
  intro l;rw [foldl_cons,ih,zw];unfold qo;split
  ·rename_i h;constructor
   ·rintro(h |h)
    ·exact .inl h
    ·exact .inr (.inr h)
   ·rintro(h |rfl |h)
    ·exact .inl h
    ·exact .inl ‹_›
    ·exact .inr h
  ·rw [zr,zm,or_assoc]
theorem qz0: ∀{ts l:List ByteArray},l.Nodup->(ts.foldl qo l).Nodup:=by
 intro ts
 induction ts with
 |nil=>intro l h;exact h
 |cons t ts ih=>
  intro l h;rw [foldl_cons];refine ih ?_;unfold qo;split
  ·exact h
  ·rename_i hn;rw [xW];refine⟨h,wC,fun a d b c e=>?_⟩;rw [zm]at c;subst e c;exact hn d
theorem qfo: ∀(ts l:List ByteArray),l.length<=(ts.foldl qo l).length/\(ts.foldl qo l).length<=l.length+ts.length:=by
 intro ts
 induction ts with
 |nil=>intro l;simp
 |cons t ts ih=>
  intro l;rw [foldl_cons,length_cons];have:=ih (qo l t);have b:l.length<=(qo l t).length/\(qo l t).length<=l.length+1:=by
   unfold qo;split
   ·omega
   ·simp
  omega
theorem qnk: ∀{fs:List qj} {l:List ByteArray},l.length<=(qcs fs l).length/\((qcs fs l).length<=400->(∀x,x∈l->x∈qcs fs l)/\ ∀f s,f∈fs->s∈f.tuple->s∈qcs fs l):=by
 intro fs
 induction fs with
 |nil=>intro l;exact⟨zG _,fun _=>⟨fun x h=>h,fun f s h=>by cases h⟩⟩
 |cons f fs ih=>
  intro l;unfold qcs;split
  ·rename_i hl;obtain⟨m,p⟩:=ih (l:=qqg l f);have q:=qfo f.tuple l;refine⟨zW q.1 m,fun c=>?_⟩;obtain⟨d,t⟩:=p c;refine⟨fun x c=>d x (qev.2 (.inl c)),fun g s b e=>?_⟩;rcases zw.1 b with rfl |b
   ·exact d s (qev.2 (.inr e))
   ·exact t g s b e
  ·rename_i hl;exact⟨zG _,fun h=>absurd h hl⟩
theorem qwy {many:Nat}: ∀{xs:List ByteArray} {n:Nat},n<=20000->qf2 many xs n=false->n*many^xs.length<=20000:=by
 intro xs
 induction xs with
 |nil=>intro n h _;simpa using h
 |cons x xs ih=>
  intro n h b;unfold qf2 at b;split at b
  ·cases b
  ·rename_i hn;have:=ih (n:=n*many) wA b;rw [length_cons,Nat.pow_succ,xL (many^xs.length),←yc];exact this
theorem qoo {r:RuleD}{J:qa7}{T:List ByteArray}(hJ: ∀i,(J.pos i).Nodup)(hT: ∀i t s,t∈J.pos i->s∈t->s∈T)(g:qeu r T.length=false):(qem J r.body).length<=20000:=by
 have hn:(qem J r.body).Nodup:=List.Pairwise.filter _ (qkw hJ _ qb1 (by rw [qf8];exact qlf _ _ _ fun i hi=>(qc9 hi).2));have m: ∀x,x∈qfn r↔x∈q8 r.body (qao r.body):=fun x=>by unfold qfn;rw [qev];simp
 have d: ∀b,b∈qem J r.body-> ∀x,x∈qfn r-> ∃v,b x=some v/\v∈T:=fun b R x e=>by
  obtain⟨⟨h1,h2,h3⟩,-⟩:=qjl.1 R;obtain⟨i,hi,-,e⟩:=qgl.1 ((m x).1 e);have hh:=h3 i hi;have hk:=(qc9 hi).2;unfold qbg at hk;unfold qgf at hh;rw [zF wA,zF wA]at hh;obtain⟨t,ht,he⟩:=hh;unfold qal at e;obtain⟨u,q,rfl⟩:=yL.1 e;rw [yV]at q;have:qab b u∈(r.body.getD i default).atom.args.map (qab b):=mem_map_of_mem q.1;rw [he]at this;obtain⟨v,hv,p⟩:=yL.1 this;unfold qab at p;rw [zI q.2]at p;exact⟨v,p.symm,hT i t v ht hv⟩
 have Y:((qem J r.body).map fun b=>(qfn r).map fun x=>(b x).getD ⟨#[]⟩).Nodup:=by
  have hd: ∀b,b∈qem J r.body->qin qb1 b (q8 r.body (qao r.body)):=fun b R=>(qjl.1 R).1.2.1
  revert hn hd d
  generalize qem J r.body=l;intro hn d hd
  induction l with
  |nil=>simp
  |cons b l ih=>
   rw [xS]at hn;rw [yX,xS];refine⟨fun hm=>?_,ih hn.2 (fun c g=>d c (yD _ g)) (fun c g=>hd c (yD _ g))⟩;obtain⟨c,g,he⟩:=yL.1 hm;have:c=b:=by
    have ae:=hd b (yJ ..);have U:=hd c (yD _ g);refine qv6 (a:=qb1) (xs:=q8 r.body (qao r.body)) (fun x v e=>?_) U ae;have ad:x∈qfn r:=(m x).2 (((U x).1 ⟨v,e⟩).elim (fun⟨v,h⟩=>by cases h) id);obtain⟨u,q,-⟩:=d b (yJ ..) x ad;have:=map_inj_left.1 he x ad;rw [e,q]at this;rw [q];exact yN some this.symm
   subst this;exact hn.1 g
 have ab: ∀y,y∈((qem J r.body).map fun b=>(qfn r).map fun x=>(b x).getD ⟨#[]⟩)->y∈qpc T (qfn r).length:=fun y hy=>by
  obtain⟨b,R,rfl⟩:=yL.1 hy;have:=q5x (T:=T) (r:=(qfn r).map fun x=>(b x).getD ⟨#[]⟩) (fun z hz=>by
   obtain⟨x,e,rfl⟩:=yL.1 hz;obtain⟨v,hv,ai⟩:=d b R x e;rw [hv];exact ai)
  rw [zL]at this;exact this
 have h1:=q2p Y ab;rw [zL,q5w]at h1;have h2:=qwy (n:=1) wA g;omega
end Go.Ink
namespace Go.Proofs
open Go.RowKit Go.Ink Go.Flt P16
theorem q5y {body:List LitD}{i:Nat}: ∀(is:List Nat) (K:ByteArray->Prop),qg5 body is K->qg5 body [i] (fun x=>K x∨x∈q8 body is)->qg5 body (is++ [i]) K:=by
 intro is
 induction is with
 |nil=>
  intro K _ h;have e:(fun x=>K x∨x∈q8 body [])=K:=xz fun x=>propext ⟨fun h=>h.elim id (fun h=>by cases h),.inl⟩;rw [e]at h;exact h
 |cons k is ih=>
  intro K b h;obtain⟨c,d,g⟩:=b;refine⟨c,d,ih _ g ?_⟩;have e:(fun x=>(K x∨x∈q8 body [k])∨x∈q8 body is)=fun x=>K x∨x∈q8 body (k::is):=xz fun x=>propext (by
   have:q8 body (k::is)=q8 body [k]++q8 body is:=by unfold q8;simp
   rw [this,zr,or_assoc])
  rw [e];exact h
theorem qj4 {r:RuleD}(h:qat r=true):qj2 r.body:=fun i hi=>by
 unfold qat at h;rw [zV,zV,yM]at h;have b:r.body.getD i default=r.body[i]:=by rw [zJ,zB hi];rfl
 have:=h.2 r.body[i] (xE hi);unfold qbg;rw [b];unfold qcj at this;split at this
 ·rename_i h1;omega
 ·split at this
  ·rename_i h1;omega
  ·cases this
structure q91 (r:RuleD)(s:MkS):Prop where
 way:qg5 r.body (s.steps.map fun x=>x.lit.toNat) (fun _=>False)
 known: ∀x,x∈s.K↔x∈q8 r.body (s.steps.map fun x=>x.lit.toNat)
 taken: ∀i,i<r.body.length->(s.taken.getD i true=true↔i∈s.steps.map fun x=>x.lit.toNat)
 low: ∀i,i∈(s.steps.map fun x=>x.lit.toNat)->i<r.body.length
theorem q88 {r:RuleD}{sizes:List qas}{first:Int}(hF:qat r=true)(hu:qb0 sizes=true)(hs:qed r=true)(hf:qbk r first=false)(j:Nat)(hj:j<=r.body.length):q91 r (qbz r sizes first j):=by
 induction j with
 |zero=>
  refine⟨wF,fun x=>by simp [qbz,q8],fun i hi=>?_,fun i hi=>by simp [qbz] at hi⟩;simp only [qbz,xi,yS,iff_false];rw [zJ,xU,zI hi];simp
 |succ j m=>
  have m:=m wA;obtain⟨k,U,z,q,u⟩:=qi6 (sizes:=sizes) hs hf (show j<r.body.length from wA) (qoh hu hs hf j wA) (fun h=>by subst h;rfl);have e:qbz r sizes first (j+1)=qii r sizes (k:Int) (qbz r sizes first j):=by
   show qii r sizes (qhg r sizes first j (qbz r sizes first j)) (qbz r sizes first j)=_;rw [U]
  rw [e];generalize qbz r sizes first j=s at m q u⊢
  have l:=qj4 hF k z;unfold qbg at l;unfold qii;simp only [Int.toNat_natCast];have g:(qbh s.K (r.body.getD k default) (k:Int)).lit.toNat=k:=by unfold qbh;split<;>simp
  refine⟨?_,fun x=>?_,fun i hi=>?_,fun i hi=>?_⟩
  ·simp only [zn,yX,xi,g];refine q5y _ _ m.way ⟨fun y t v Y=>?_,fun h2 t v Y=>?_,wF⟩
   all_goals
    refine .inr ((m.known _).1 ?_);rcases u with c |c
    ·omega
    ·unfold qc2 at c;rw [y8]at c;rcases c with c |c
     ·have:=yE c;omega
     ·have c:(qfa (r.body.getD k default)).any (qcp s.K)=false:=by simpa using c
      rw [xZ]at c;unfold qfa at c
      first
       |rw [zI y] at c
        have b:=c t (by rcases v with rfl |rfl<;>simp);unfold qcp at b;rw [Y]at b
        simpa using b
       |rw [zF wA] at c
        have b:=c t v;unfold qcp at b;rw [Y]at b
        simpa using b
  ·simp only [zn,yX,xi,g];have hp: ∀is:List Nat,q8 r.body (is++ [k])=q8 r.body is++q8 r.body [k]:=fun is=>by unfold q8;rw [yG]
   rw [qsq,hp,zr,m.known,qdg];by_cases c:(r.body.getD k default).kind=1
   ·have d:(qbh s.K (r.body.getD k default) (k:Int)).new=qb8 s.K (r.body.getD k default).atom.args:=by unfold qbh;rw [zF wA]
    rw [zF wA,d,ql9,m.known];have aa:x∈qjo (r.body.getD k default).atom.args↔x∈qal (r.body.getD k default).atom.args:=qeh _ x;rw [aa];constructor
    ·rintro(h |h)
     ·exact .inl h
     ·exact .inr h.1
    ·intro h;by_cases hx:x∈q8 r.body (s.steps.map fun x=>x.lit.toNat)
     ·exact .inl hx
     ·exact .inr ⟨h.resolve_left hx,hx⟩
   ·rw [zI wA];constructor
    ·rintro(h |h)
     ·exact .inl h
     ·exfalso;rcases l with y |y |y
      ·exact c y
      ·have d:(qbh s.K (r.body.getD k default) (k:Int)).new=qb8 s.K (r.body.getD k default).atom.args:=by unfold qbh;rw [zF wA]
       rw [d,ql9]at h;rcases u with b |b
       ·exact c b
       ·unfold qc2 at b;rw [y8]at b;rcases b with b |b
        ·exact c (yE b)
        ·have b:(qfa (r.body.getD k default)).any (qcp s.K)=false:=by simpa using b
         rw [xZ]at b;unfold qfa at b;rw [zF wA]at b;obtain⟨t,v,rfl⟩:=yL.1 ((qeh _ x).1 h.1);rw [yV]at v;have R:=b t v.1;unfold qcp at R;rw [v.2]at R;exact h.2 (by simpa using R)
      ·have d:(qbh s.K (r.body.getD k default) (k:Int)).new= []:=by unfold qbh;rw [zI y]
       rw [d]at h;cases h
    ·rintro(h |h)
     ·exact .inl h
     ·cases h
  ·simp only [zn,yX,xi,g,zr,zm];rw [←m.taken i hi];by_cases p:i=k
   ·subst p;have hl:i<s.taken.length:=by
     by_cases h:i<s.taken.length
     ·exact h
     ·rw [zJ,xB wA]at q;cases q
    rw [zJ,getElem?_set_self hl];simp
   ·rw [zJ,getElem?_set_ne (fun e=>p e.symm),←zJ];simp [p]
  ·simp only [zn,yX,xi,g,zr,zm]at hi;rcases hi with hi |rfl
   ·exact m.low i hi
   ·exact z
def qg1 (r:RuleD)(sizes:List qas)(first:Int):List Nat:=(qbz r sizes first r.body.length).steps.map fun x=>x.lit.toNat
theorem qjn {r:RuleD}{sizes:List qas}{first:Int}(h:qd9 r sizes (qbk r first)=0):qzx r.body (qg1 r sizes first)/\qj2 r.body/\qg5 r.body (qg1 r sizes first) (fun _=>False):=by
 have z:qat r=true/\qb0 sizes=true/\qbk r first=false/\qed r=true:=by
  unfold qd9 at h;cases t:qat r<;>cases u:qb0 sizes<;>cases v:qed r<;>cases x:qbk r first<;>rw [t,u,v,x] at h<;>first |exact⟨rfl,rfl,rfl,rfl⟩ |(exfalso;revert h;decide)
 obtain⟨e,q,l,p⟩:=z;have d:=q88 (sizes:=sizes) e q p l r.body.length (zG _);have ho:=qoh (sizes:=sizes) (first:=first) q p l r.body.length (zG _);refine⟨fun i=>⟨d.low i,fun hi=>?_⟩,qj4 e,d.way⟩;refine(d.taken i hi).1 ?_;generalize qbz r sizes first r.body.length=s at ho
 have c:s.taken.filter id=s.taken:=filter_sublist.eq_of_length (by rw [ho.cnt,ho.len]);have y: ∀b,b∈s.taken->b=true:=fun b g=>by
  rw [←c,yV]at g;exact g.2
 have m:i<s.taken.length:=by rw [ho.len];exact hi
 rw [zJ,zB m];exact y _ (xE m)
end Go.Proofs
