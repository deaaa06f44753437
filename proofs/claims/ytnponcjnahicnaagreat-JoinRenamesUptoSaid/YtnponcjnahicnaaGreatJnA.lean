/- Parts of the proof. -/
import Derived.Test.YtnponcjnahicnaaGreatDataToOwnB
set_option linter.unusedSimpArgs false
set_option linter.unusedVariables false
open List(append_nil filter_cons flatMap_cons flatMap_nil map_congr_left map_cons mem_append mem_cons mem_cons_of_mem mem_cons_self mem_flatMap mem_map mem_map_of_mem mem_singleton nil_append nodup_append nodup_cons nodup_nil)
namespace Go.Ink
abbrev Asg:=ByteArray->Option ByteArray
def qcb:Asg:=fun _=>none
def q8 (a:Asg)(t:TermD):Option ByteArray:=if t.var then a t.text else some t.text
def qb3 (a:Asg)(t:TermD):ByteArray:=(q8 a t).getD ⟨#[]⟩
def qf6 (a:Asg)(x v:ByteArray):Asg:=fun y=>if y=x then some v else a y
def qcf (a:Asg):List TermD->List ByteArray->Option Asg
 | [],[]=>some a
 |t::ts,x::xs=>match q8 a t with
  |some y=>if y=x then qcf a ts xs else none
  |none=>qcf (qf6 a t.text x) ts xs
 |_,_=>none
def ExtA (a b:Asg):Prop:= ∀x v,a x=some v->b x=some v
def qgs (a b:Asg)(xs:List ByteArray):Prop:= ∀x,(∃v,b x=some v)↔(∃v,a x=some v)∨x∈xs
def qac (ts:List TermD):List ByteArray:=(ts.filter (·.var)).map (·.text)
theorem ExtA.refl (a:Asg):ExtA a a:=fun _ _ h=>h
theorem ExtA.trans {a b c:Asg}(h:ExtA a b)(g:ExtA b c):ExtA a c:=fun x v hx=>g x v (h x v hx)
theorem qj1 {a b:Asg}(h:ExtA a b){t:TermD}{y:ByteArray}(ht:q8 a t=some y):q8 b t=some y:=by
 unfold q8 at ht⊢;cases hv:t.var with
 |true=>rw [hv] at ht;simp only [if_true] at ht⊢;exact h _ _ ht
 |false=>rw [hv] at ht;simpa using ht
theorem qm8 {a:Asg}{t:TermD}(h:q8 a t=none):t.var=true/\a t.text=none:=by
 unfold q8 at h;cases hv:t.var with
 |true=>rw [hv] at h;exact⟨rfl,by simpa using h⟩
 |false=>rw [hv] at h;cases h
theorem qts {a:Asg}{x v:ByteArray}(h:a x=none):ExtA a (qf6 a x v):=fun y w hy=>by
 unfold qf6;by_cases e:y=x
 ·subst e;rw [h] at hy;cases hy
 ·rw [if_neg e];exact hy
theorem qq5 (a:Asg)(x v:ByteArray):qf6 a x v x=some v:=by unfold qf6;rw [if_pos rfl]
theorem qfx {ts:List TermD}: ∀{a a':Asg} {xs:List ByteArray},qcf a ts xs=some a'->ExtA a a'/\qgs a a' (qac ts)/\ts.map (q8 a')=xs.map some:=by
 induction ts with
 |nil=>
  intro a a' xs h;cases xs with
  |nil=>cases h;exact⟨ExtA.refl _,fun x=>by simp [qac],rfl⟩
  |cons x xs=>cases h
 |cons t ts ih=>
  intro a a' xs h;cases xs with
  |nil=>cases h
  |cons x xs=>
   unfold qcf at h;split at h
   ·rename_i y hy;split at h
    ·rename_i he;subst he;obtain⟨h1,h2,h3⟩:=ih h;refine⟨h1,fun z=>?_,?_⟩
     ·rw [h2 z];unfold qac;rw [filter_cons];by_cases hv:t.var=true
      ·rw [if_pos hv,map_cons,mem_cons];constructor
       ·rintro(h |h)
        ·exact .inl h
        ·exact .inr (.inr h)
       ·rintro(h |rfl |h)
        ·exact .inl h
        ·refine .inl ⟨y,?_⟩;unfold q8 at hy;rw [if_pos hv]at hy;exact hy
        ·exact .inr h
      ·rw [if_neg hv]
     ·rw [map_cons,map_cons,h3,qj1 h1 hy]
    ·cases h
   ·rename_i hy;obtain⟨hv,hn⟩:=qm8 hy;obtain⟨h1,h2,h3⟩:=ih h;refine⟨(qts hn).trans h1,fun z=>?_,?_⟩
    ·rw [h2 z];unfold qac;rw [filter_cons,if_pos hv,map_cons,mem_cons];unfold qf6;by_cases e:z=t.text
     ·subst e;simp
     ·rw [if_neg e];simp [e]
    ·rw [map_cons,map_cons,h3];have:q8 a' t=some x:=by
      unfold q8;rw [if_pos hv];exact h1 _ _ (qq5 _ _ _)
     rw [this]
theorem qtt {ts:List TermD}: ∀{a b:Asg} {xs:List ByteArray},ExtA a b->ts.map (q8 b)=xs.map some-> ∃a',qcf a ts xs=some a'/\ExtA a' b:=by
 induction ts with
 |nil=>
  intro a b xs hE h;cases xs with
  |nil=>exact⟨a,rfl,hE⟩
  |cons x xs=>cases h
 |cons t ts ih=>
  intro a b xs hE h;cases xs with
  |nil=>cases h
  |cons x xs=>
   rw [map_cons,map_cons]at h;injection h with h1 h2
   unfold qcf;split
   ·rename_i y hy;have:=qj1 hE hy;rw [h1]at this;cases this;rw [if_pos rfl];exact ih hE h2
   ·rename_i hy;obtain⟨hv,hn⟩:=qm8 hy;refine ih ?_ h2;intro z v hz;unfold qf6 at hz;by_cases e:z=t.text
    ·subst e;rw [if_pos rfl]at hz;cases hz;unfold q8 at h1;rw [if_pos hv]at h1;exact h1
    ·rw [if_neg e]at hz;exact hE z v hz
theorem qtu {a b c:Asg}{xs:List ByteArray}(h1:ExtA b c)(h2:qgs a b xs)(h3:qgs a c xs):b=c:=by
 funext x
 cases hb:b x with
 |some v=>exact(h1 x v hb).symm
 |none=>
  cases hc:c x with
  |none=>rfl
  |some v=>
   obtain⟨w,hw⟩:=(h2 x).2 ((h3 x).1 ⟨v,hc⟩);rw [hb]at hw;cases hw
structure qba where
 pos:Nat->List (List ByteArray)
 neg:Nat->List (List ByteArray)
def qfq (J:qba)(body:List LitD)(b:Asg)(i:Nat):Prop:=
 if (body.getD i default).kind=3 then q8 b (body.getD i default).left≠q8 b (body.getD i default).right
 else if (body.getD i default).kind=2 then (body.getD i default).atom.args.map (qb3 b)∉J.neg i
 else∃t,t∈J.pos i/\(body.getD i default).atom.args.map (q8 b)=t.map some
def qbg (J:qba)(body:List LitD):List Nat->Asg->List Asg
 | [],a=> [a]
 |i::is,a=>
  if (body.getD i default).kind=3 then (if q8 a (body.getD i default).left=q8 a (body.getD i default).right then [] else qbg J body is a)
  else if (body.getD i default).kind=2 then (if (body.getD i default).atom.args.map (qb3 a)∈J.neg i then [] else qbg J body is a)
  else (J.pos i).flatMap fun t=>match qcf a (body.getD i default).atom.args t with
   |some a'=>qbg J body is a'
   |none=> []
def qz (body:List LitD)(is:List Nat):List ByteArray:=is.flatMap fun i=>if (body.getD i default).kind=3∨(body.getD i default).kind=2 then [] else qac (body.getD i default).atom.args
theorem qc8 (body:List LitD)(i:Nat):qz body [i]=if (body.getD i default).kind=3∨(body.getD i default).kind=2 then [] else qac (body.getD i default).atom.args:=by
 unfold qz;rw [flatMap_cons,flatMap_nil,append_nil]
def qtv (a:Asg)(t:TermD):Prop:= ∃y,q8 a t=some y
def qgt (body:List LitD):List Nat->(ByteArray->Prop)->Prop
 | [],_=>True
 |i::is,K=>
  ((body.getD i default).kind=3-> ∀t,t=(body.getD i default).left∨t=(body.getD i default).right->t.var=true->K t.text)/\
  ((body.getD i default).kind=2-> ∀t,t∈(body.getD i default).atom.args->t.var=true->K t.text)/\
  qgt body is (fun x=>K x∨x∈qz body [i])
theorem qgu {a b:Asg}{t:TermD}(h:qtv a t)(hE:ExtA a b):q8 b t=q8 a t:=by
 obtain⟨y,hy⟩:=h;rw [hy];exact qj1 hE hy
theorem q0f {a b c:Asg}{xs ys:List ByteArray}(h:qgs a b xs)(g:qgs b c ys):qgs a c (xs++ys):=fun x=>by
 rw [g x,h x,mem_append,or_assoc]
theorem qla {J:qba}{body:List LitD}: ∀(is:List Nat) (a b:Asg),qgt body is (fun x=> ∃v,a x=some v)->
  (b∈qbg J body is a↔ExtA a b/\qgs a b (qz body is)/\ ∀i,i∈is->qfq J body b i):=by
 intro is
 induction is with
 |nil=>
  intro a b _;unfold qbg;rw [mem_singleton];constructor
  ·rintro rfl;exact⟨ExtA.refl _,fun x=>by simp [qz],fun i h=>by cases h⟩
  ·rintro⟨h1,h2,-⟩;exact(qtu (a:=a) (xs:= []) h1 (fun x=>by simp) h2).symm
 |cons i is ih=>
  intro a b hw;obtain⟨w3,w2,wr⟩:=hw;have hp:qz body (i::is)=qz body [i]++qz body is:=by unfold qz;simp
  have hkn: ∀t:TermD,(t.var=true-> ∃v,a t.text=some v)->qtv a t:=fun t h=>by
   unfold qtv q8;cases hv:t.var with
   |true=>simpa using h hv
   |false=>exact⟨_,rfl⟩
  unfold qbg;by_cases h3:(body.getD i default).kind=3
  ·have hnil:qz body [i]= []:=by rw [qc8,if_pos (.inl h3)]
   have wr':qgt body is (fun x=> ∃v,a x=some v):=by simpa [hnil] using wr
   rw [if_pos h3,hp,hnil,nil_append];have kl:=hkn _ (w3 h3 _ (.inl rfl));have kr:=hkn _ (w3 h3 _ (.inr rfl));split
   ·rename_i he;constructor
    ·intro h;cases h
    ·rintro⟨h1,-,h2⟩;have:=h2 i (mem_cons_self ..);unfold qfq at this;rw [if_pos h3,qgu kl h1,qgu kr h1]at this;exact absurd he this
   ·rename_i he;rw [ih a b wr'];constructor
    ·rintro⟨h1,h2,h4⟩;refine⟨h1,h2,fun k hk=>?_⟩;rcases mem_cons.1 hk with rfl |hk
     ·unfold qfq;rw [if_pos h3,qgu kl h1,qgu kr h1];exact he
     ·exact h4 k hk
    ·rintro⟨h1,h2,h4⟩;exact⟨h1,h2,fun k hk=>h4 k (mem_cons_of_mem _ hk)⟩
  ·by_cases h2:(body.getD i default).kind=2
   ·have hnil:qz body [i]= []:=by rw [qc8,if_pos (.inr h2)]
    have wr':qgt body is (fun x=> ∃v,a x=some v):=by simpa [hnil] using wr
    rw [if_neg h3,if_pos h2,hp,hnil,nil_append];have ka: ∀b:Asg,ExtA a b->(body.getD i default).atom.args.map (qb3 b)=(body.getD i default).atom.args.map (qb3 a):=fun b hE=>by
     refine map_congr_left fun t ht=>?_;unfold qb3;rw [qgu (hkn t (w2 h2 t ht)) hE]
    split
    ·rename_i he;constructor
     ·intro h;cases h
     ·rintro⟨h1,-,h4⟩;have:=h4 i (mem_cons_self ..);unfold qfq at this;rw [if_neg h3,if_pos h2,ka b h1]at this;exact absurd he this
    ·rename_i he;rw [ih a b wr'];constructor
     ·rintro⟨h1,h5,h4⟩;refine⟨h1,h5,fun k hk=>?_⟩;rcases mem_cons.1 hk with rfl |hk
      ·unfold qfq;rw [if_neg h3,if_pos h2,ka b h1];exact he
      ·exact h4 k hk
     ·rintro⟨h1,h5,h4⟩;exact⟨h1,h5,fun k hk=>h4 k (mem_cons_of_mem _ hk)⟩
   ·have hpv:qz body [i]=qac (body.getD i default).atom.args:=by rw [qc8,if_neg (fun h=>h.elim h3 h2)]
    rw [if_neg h3,if_neg h2,hp,hpv,mem_flatMap];rw [hpv]at wr;have hstep: ∀a' t,qcf a (body.getD i default).atom.args t=some a'->qgt body is (fun x=> ∃v,a' x=some v):=fun a' t hf=>by
     have:=(qfx hf).2.1;have e:(fun x=> ∃v,a' x=some v)=fun x=>(∃v,a x=some v)∨x∈qac (body.getD i default).atom.args:=funext fun x=>propext (this x);rw [e];exact wr
    constructor
    ·rintro⟨t,ht,hb⟩;split at hb
     ·rename_i a' hf;obtain⟨f1,f2,f3⟩:=qfx hf;obtain⟨g1,g2,g3⟩:=(ih a' b (hstep a' t hf)).1 hb;refine⟨f1.trans g1,q0f f2 g2,fun k hk=>?_⟩;rcases mem_cons.1 hk with rfl |hk
      ·unfold qfq;rw [if_neg h3,if_neg h2];refine⟨t,ht,?_⟩;rw [←f3];refine map_congr_left fun x hx=>?_;have:q8 a' x∈(body.getD k default).atom.args.map (q8 a'):=mem_map_of_mem hx;rw [f3]at this;obtain⟨y,-,hy⟩:=mem_map.1 this;exact qgu ⟨y,hy.symm⟩ g1
      ·exact g3 k hk
     ·cases hb
    ·rintro⟨h1,h4,h5⟩;have hh:=h5 i (mem_cons_self ..);unfold qfq at hh;rw [if_neg h3,if_neg h2]at hh;obtain⟨t,ht,hm⟩:=hh;obtain⟨a',hf,hE⟩:=qtt h1 hm;refine⟨t,ht,?_⟩;rw [hf];refine(ih a' b (hstep a' t hf)).2 ⟨hE,fun x=>?_,fun k hk=>h5 k (mem_cons_of_mem _ hk)⟩;have f2:=(qfx hf).2.1;rw [h4 x,f2 x,mem_append,or_assoc]
theorem qko {J:qba}{body:List LitD}(hJ: ∀i,(J.pos i).Nodup): ∀(is:List Nat) (a:Asg),qgt body is (fun x=> ∃v,a x=some v)->(qbg J body is a).Nodup:=by
 intro is
 induction is with
 |nil=>intro a _;unfold qbg;simp
 |cons i is ih=>
  intro a hw;obtain⟨w3,w2,wr⟩:=hw;unfold qbg;by_cases h3:(body.getD i default).kind=3
  ·have hnil:qz body [i]= []:=by rw [qc8,if_pos (.inl h3)]
   rw [if_pos h3];split
   ·exact nodup_nil
   ·exact ih a (by simpa [hnil] using wr)
  ·by_cases h2:(body.getD i default).kind=2
   ·have hnil:qz body [i]= []:=by rw [qc8,if_pos (.inr h2)]
    rw [if_neg h3,if_pos h2];split
    ·exact nodup_nil
    ·exact ih a (by simpa [hnil] using wr)
   ·have hpv:qz body [i]=qac (body.getD i default).atom.args:=by rw [qc8,if_neg (fun h=>h.elim h3 h2)]
    rw [if_neg h3,if_neg h2];rw [hpv]at wr;have hstep: ∀a' t,qcf a (body.getD i default).atom.args t=some a'->qgt body is (fun x=> ∃v,a' x=some v):=fun a' t hf=>by
     have:=(qfx hf).2.1;have e:(fun x=> ∃v,a' x=some v)=fun x=>(∃v,a x=some v)∨x∈qac (body.getD i default).atom.args:=funext fun x=>propext (this x);rw [e];exact wr
    have key: ∀t b,b∈(match qcf a (body.getD i default).atom.args t with |some a'=>qbg J body is a' |none=> [])->(body.getD i default).atom.args.map (q8 b)=t.map some:=fun t b hb=>by
     split at hb
     ·rename_i a' hf;obtain⟨f1,f2,f3⟩:=qfx hf;obtain⟨g1,-,-⟩:=(qla is a' b (hstep a' t hf)).1 hb;rw [←f3];refine map_congr_left fun x hx=>?_;have:q8 a' x∈(body.getD i default).atom.args.map (q8 a'):=mem_map_of_mem hx;rw [f3]at this;obtain⟨y,-,hy⟩:=mem_map.1 this;exact qgu ⟨y,hy.symm⟩ g1
     ·cases hb
    have hn:=hJ i
    revert hn
    generalize J.pos i=l;intro hn
    induction l with
    |nil=>simp
    |cons t l ihl=>
     rw [nodup_cons]at hn;rw [flatMap_cons,nodup_append];refine⟨?_,ihl hn.2,?_⟩
     ·split
      ·rename_i a' hf;exact ih a' (hstep a' t hf)
      ·exact nodup_nil
     ·intro b hb c hc e;subst e;obtain⟨t2,ht2,hc⟩:=mem_flatMap.1 hc;have e1:=key t b hb;have e2:=key t2 b hc;rw [e1]at e2;have:t=t2:=(List.map_inj_right (fun x y h=>by cases h;rfl)).1 e2;subst this;exact hn.1 ht2
end Go.Ink
