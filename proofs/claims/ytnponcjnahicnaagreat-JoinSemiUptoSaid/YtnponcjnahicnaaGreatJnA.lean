/- Parts of the proof. -/
import Derived.Test.YtnponcjnahicnaaGreatDataToOwnB
set_option linter.unusedSimpArgs false
set_option linter.unusedVariables false
open List(append_nil filter_cons flatMap_cons flatMap_nil map_congr_left map_cons mem_append mem_cons mem_cons_of_mem mem_cons_self mem_flatMap mem_map mem_map_of_mem mem_singleton nil_append nodup_append nodup_cons nodup_nil)
namespace Go.Ink
abbrev Asg:=ByteArray->Option ByteArray
def qb3:Asg:=fun _=>none
def qy (a:Asg)(t:TermD):Option ByteArray:=if t.var then a t.text else some t.text
def qcs (a:Asg)(t:TermD):ByteArray:=(qy a t).getD ⟨#[]⟩
def qfw (a:Asg)(x v:ByteArray):Asg:=fun y=>if y=x then some v else a y
def qcd (a:Asg):List TermD->List ByteArray->Option Asg
 | [],[]=>some a
 |t::ts,x::xs=>match qy a t with
  |some y=>if y=x then qcd a ts xs else none
  |none=>qcd (qfw a t.text x) ts xs
 |_,_=>none
def ExtA (a b:Asg):Prop:= ∀x v,a x=some v->b x=some v
def qg3 (a b:Asg)(xs:List ByteArray):Prop:= ∀x,(∃v,b x=some v)↔(∃v,a x=some v)∨x∈xs
def qba (ts:List TermD):List ByteArray:=(ts.filter (·.var)).map (·.text)
theorem ExtA.refl (a:Asg):ExtA a a:=fun _ _ h=>h
theorem ExtA.trans {a b c:Asg}(h:ExtA a b)(g:ExtA b c):ExtA a c:=fun x v hx=>g x v (h x v hx)
theorem qjl {a b:Asg}(h:ExtA a b){t:TermD}{y:ByteArray}(ht:qy a t=some y):qy b t=some y:=by
 unfold qy at ht⊢;cases hv:t.var with
 |true=>rw [hv] at ht;simp only [if_true] at ht⊢;exact h _ _ ht
 |false=>rw [hv] at ht;simpa using ht
theorem qms {a:Asg}{t:TermD}(h:qy a t=none):t.var=true/\a t.text=none:=by
 unfold qy at h;cases hv:t.var with
 |true=>rw [hv] at h;exact⟨rfl,by simpa using h⟩
 |false=>rw [hv] at h;cases h
theorem qtj {a:Asg}{x v:ByteArray}(h:a x=none):ExtA a (qfw a x v):=fun y w hy=>by
 unfold qfw;by_cases e:y=x
 ·subst e;rw [h] at hy;cases hy
 ·rw [if_neg e];exact hy
theorem qqq (a:Asg)(x v:ByteArray):qfw a x v x=some v:=by unfold qfw;rw [if_pos rfl]
theorem qfn {ts:List TermD}: ∀{a a':Asg} {xs:List ByteArray},qcd a ts xs=some a'->ExtA a a'/\qg3 a a' (qba ts)/\ts.map (qy a')=xs.map some:=by
 induction ts with
 |nil=>
  intro a a' xs h;cases xs with
  |nil=>cases h;exact⟨ExtA.refl _,fun x=>by simp [qba],rfl⟩
  |cons x xs=>cases h
 |cons t ts ih=>
  intro a a' xs h;cases xs with
  |nil=>cases h
  |cons x xs=>
   unfold qcd at h;split at h
   ·rename_i y hy;split at h
    ·rename_i he;subst he;obtain⟨h1,h2,h3⟩:=ih h;refine⟨h1,fun z=>?_,?_⟩
     ·rw [h2 z];unfold qba;rw [filter_cons];by_cases hv:t.var=true
      ·rw [if_pos hv,map_cons,mem_cons];constructor
       ·rintro(h |h)
        ·exact .inl h
        ·exact .inr (.inr h)
       ·rintro(h |rfl |h)
        ·exact .inl h
        ·refine .inl ⟨y,?_⟩;unfold qy at hy;rw [if_pos hv]at hy;exact hy
        ·exact .inr h
      ·rw [if_neg hv]
     ·rw [map_cons,map_cons,h3,qjl h1 hy]
    ·cases h
   ·rename_i hy;obtain⟨hv,hn⟩:=qms hy;obtain⟨h1,h2,h3⟩:=ih h;refine⟨(qtj hn).trans h1,fun z=>?_,?_⟩
    ·rw [h2 z];unfold qba;rw [filter_cons,if_pos hv,map_cons,mem_cons];unfold qfw;by_cases e:z=t.text
     ·subst e;simp
     ·rw [if_neg e];simp [e]
    ·rw [map_cons,map_cons,h3];have:qy a' t=some x:=by
      unfold qy;rw [if_pos hv];exact h1 _ _ (qqq _ _ _)
     rw [this]
theorem qtk {ts:List TermD}: ∀{a b:Asg} {xs:List ByteArray},ExtA a b->ts.map (qy b)=xs.map some-> ∃a',qcd a ts xs=some a'/\ExtA a' b:=by
 induction ts with
 |nil=>
  intro a b xs hE h;cases xs with
  |nil=>exact⟨a,rfl,hE⟩
  |cons x xs=>cases h
 |cons t ts ih=>
  intro a b xs hE h;cases xs with
  |nil=>cases h
  |cons x xs=>
   rw [map_cons,map_cons]at h;injection h with h1 h2
   unfold qcd;split
   ·rename_i y hy;have:=qjl hE hy;rw [h1]at this;cases this;rw [if_pos rfl];exact ih hE h2
   ·rename_i hy;obtain⟨hv,hn⟩:=qms hy;refine ih ?_ h2;intro z v hz;unfold qfw at hz;by_cases e:z=t.text
    ·subst e;rw [if_pos rfl]at hz;cases hz;unfold qy at h1;rw [if_pos hv]at h1;exact h1
    ·rw [if_neg e]at hz;exact hE z v hz
theorem qtl {a b c:Asg}{xs:List ByteArray}(h1:ExtA b c)(h2:qg3 a b xs)(h3:qg3 a c xs):b=c:=by
 funext x
 cases hb:b x with
 |some v=>exact(h1 x v hb).symm
 |none=>
  cases hc:c x with
  |none=>rfl
  |some v=>
   obtain⟨w,hw⟩:=(h2 x).2 ((h3 x).1 ⟨v,hc⟩);rw [hb]at hw;cases hw
structure qa7 where
 pos:Nat->List (List ByteArray)
 neg:Nat->List (List ByteArray)
def qek (J:qa7)(body:List LitD)(b:Asg)(i:Nat):Prop:=
 if (body.getD i default).kind=3 then qy b (body.getD i default).left≠qy b (body.getD i default).right
 else if (body.getD i default).kind=2 then (body.getD i default).atom.args.map (qcs b)∉J.neg i
 else∃t,t∈J.pos i/\(body.getD i default).atom.args.map (qy b)=t.map some
def qbh (J:qa7)(body:List LitD):List Nat->Asg->List Asg
 | [],a=> [a]
 |i::is,a=>
  if (body.getD i default).kind=3 then (if qy a (body.getD i default).left=qy a (body.getD i default).right then [] else qbh J body is a)
  else if (body.getD i default).kind=2 then (if (body.getD i default).atom.args.map (qcs a)∈J.neg i then [] else qbh J body is a)
  else (J.pos i).flatMap fun t=>match qcd a (body.getD i default).atom.args t with
   |some a'=>qbh J body is a'
   |none=> []
def qw (body:List LitD)(is:List Nat):List ByteArray:=is.flatMap fun i=>if (body.getD i default).kind=3∨(body.getD i default).kind=2 then [] else qba (body.getD i default).atom.args
theorem qc3 (body:List LitD)(i:Nat):qw body [i]=if (body.getD i default).kind=3∨(body.getD i default).kind=2 then [] else qba (body.getD i default).atom.args:=by
 unfold qw;rw [flatMap_cons,flatMap_nil,append_nil]
def qtm (a:Asg)(t:TermD):Prop:= ∃y,qy a t=some y
def qgn (body:List LitD):List Nat->(ByteArray->Prop)->Prop
 | [],_=>True
 |i::is,K=>
  ((body.getD i default).kind=3-> ∀t,t=(body.getD i default).left∨t=(body.getD i default).right->t.var=true->K t.text)/\
  ((body.getD i default).kind=2-> ∀t,t∈(body.getD i default).atom.args->t.var=true->K t.text)/\
  qgn body is (fun x=>K x∨x∈qw body [i])
theorem qgo {a b:Asg}{t:TermD}(h:qtm a t)(hE:ExtA a b):qy b t=qy a t:=by
 obtain⟨y,hy⟩:=h;rw [hy];exact qjl hE hy
theorem qz0 {a b c:Asg}{xs ys:List ByteArray}(h:qg3 a b xs)(g:qg3 b c ys):qg3 a c (xs++ys):=fun x=>by
 rw [g x,h x,mem_append,or_assoc]
theorem qk0 {J:qa7}{body:List LitD}: ∀(is:List Nat) (a b:Asg),qgn body is (fun x=> ∃v,a x=some v)->
  (b∈qbh J body is a↔ExtA a b/\qg3 a b (qw body is)/\ ∀i,i∈is->qek J body b i):=by
 intro is
 induction is with
 |nil=>
  intro a b _;unfold qbh;rw [mem_singleton];constructor
  ·rintro rfl;exact⟨ExtA.refl _,fun x=>by simp [qw],fun i h=>by cases h⟩
  ·rintro⟨h1,h2,-⟩;exact(qtl (a:=a) (xs:= []) h1 (fun x=>by simp) h2).symm
 |cons i is ih=>
  intro a b hw;obtain⟨w3,w2,wr⟩:=hw;have hp:qw body (i::is)=qw body [i]++qw body is:=by unfold qw;simp
  have hkn: ∀t:TermD,(t.var=true-> ∃v,a t.text=some v)->qtm a t:=fun t h=>by
   unfold qtm qy;cases hv:t.var with
   |true=>simpa using h hv
   |false=>exact⟨_,rfl⟩
  unfold qbh;by_cases h3:(body.getD i default).kind=3
  ·have hnil:qw body [i]= []:=by rw [qc3,if_pos (.inl h3)]
   have wr':qgn body is (fun x=> ∃v,a x=some v):=by simpa [hnil] using wr
   rw [if_pos h3,hp,hnil,nil_append];have kl:=hkn _ (w3 h3 _ (.inl rfl));have kr:=hkn _ (w3 h3 _ (.inr rfl));split
   ·rename_i he;constructor
    ·intro h;cases h
    ·rintro⟨h1,-,h2⟩;have:=h2 i (mem_cons_self ..);unfold qek at this;rw [if_pos h3,qgo kl h1,qgo kr h1]at this;exact absurd he this
   ·rename_i he;rw [ih a b wr'];constructor
    ·rintro⟨h1,h2,h4⟩;refine⟨h1,h2,fun k hk=>?_⟩;rcases mem_cons.1 hk with rfl |hk
     ·unfold qek;rw [if_pos h3,qgo kl h1,qgo kr h1];exact he
     ·exact h4 k hk
    ·rintro⟨h1,h2,h4⟩;exact⟨h1,h2,fun k hk=>h4 k (mem_cons_of_mem _ hk)⟩
  ·by_cases h2:(body.getD i default).kind=2
   ·have hnil:qw body [i]= []:=by rw [qc3,if_pos (.inr h2)]
    have wr':qgn body is (fun x=> ∃v,a x=some v):=by simpa [hnil] using wr
    rw [if_neg h3,if_pos h2,hp,hnil,nil_append];have ka: ∀b:Asg,ExtA a b->(body.getD i default).atom.args.map (qcs b)=(body.getD i default).atom.args.map (qcs a):=fun b hE=>by
     refine map_congr_left fun t ht=>?_;unfold qcs;rw [qgo (hkn t (w2 h2 t ht)) hE]
    split
    ·rename_i he;constructor
     ·intro h;cases h
     ·rintro⟨h1,-,h4⟩;have:=h4 i (mem_cons_self ..);unfold qek at this;rw [if_neg h3,if_pos h2,ka b h1]at this;exact absurd he this
    ·rename_i he;rw [ih a b wr'];constructor
     ·rintro⟨h1,h5,h4⟩;refine⟨h1,h5,fun k hk=>?_⟩;rcases mem_cons.1 hk with rfl |hk
      ·unfold qek;rw [if_neg h3,if_pos h2,ka b h1];exact he
      ·exact h4 k hk
     ·rintro⟨h1,h5,h4⟩;exact⟨h1,h5,fun k hk=>h4 k (mem_cons_of_mem _ hk)⟩
   ·have hpv:qw body [i]=qba (body.getD i default).atom.args:=by rw [qc3,if_neg (fun h=>h.elim h3 h2)]
    rw [if_neg h3,if_neg h2,hp,hpv,mem_flatMap];rw [hpv]at wr;have hstep: ∀a' t,qcd a (body.getD i default).atom.args t=some a'->qgn body is (fun x=> ∃v,a' x=some v):=fun a' t hf=>by
     have:=(qfn hf).2.1;have e:(fun x=> ∃v,a' x=some v)=fun x=>(∃v,a x=some v)∨x∈qba (body.getD i default).atom.args:=funext fun x=>propext (this x);rw [e];exact wr
    constructor
    ·rintro⟨t,ht,hb⟩;split at hb
     ·rename_i a' hf;obtain⟨f1,f2,f3⟩:=qfn hf;obtain⟨g1,g2,g3⟩:=(ih a' b (hstep a' t hf)).1 hb;refine⟨f1.trans g1,qz0 f2 g2,fun k hk=>?_⟩;rcases mem_cons.1 hk with rfl |hk
      ·unfold qek;rw [if_neg h3,if_neg h2];refine⟨t,ht,?_⟩;rw [←f3];refine map_congr_left fun x hx=>?_;have:qy a' x∈(body.getD k default).atom.args.map (qy a'):=mem_map_of_mem hx;rw [f3]at this;obtain⟨y,-,hy⟩:=mem_map.1 this;exact qgo ⟨y,hy.symm⟩ g1
      ·exact g3 k hk
     ·cases hb
    ·rintro⟨h1,h4,h5⟩;have hh:=h5 i (mem_cons_self ..);unfold qek at hh;rw [if_neg h3,if_neg h2]at hh;obtain⟨t,ht,hm⟩:=hh;obtain⟨a',hf,hE⟩:=qtk h1 hm;refine⟨t,ht,?_⟩;rw [hf];refine(ih a' b (hstep a' t hf)).2 ⟨hE,fun x=>?_,fun k hk=>h5 k (mem_cons_of_mem _ hk)⟩;have f2:=(qfn hf).2.1;rw [h4 x,f2 x,mem_append,or_assoc]
theorem qkd {J:qa7}{body:List LitD}(hJ: ∀i,(J.pos i).Nodup): ∀(is:List Nat) (a:Asg),qgn body is (fun x=> ∃v,a x=some v)->(qbh J body is a).Nodup:=by
 intro is
 induction is with
 |nil=>intro a _;unfold qbh;simp
 |cons i is ih=>
  intro a hw;obtain⟨w3,w2,wr⟩:=hw;unfold qbh;by_cases h3:(body.getD i default).kind=3
  ·have hnil:qw body [i]= []:=by rw [qc3,if_pos (.inl h3)]
   rw [if_pos h3];split
   ·exact nodup_nil
   ·exact ih a (by simpa [hnil] using wr)
  ·by_cases h2:(body.getD i default).kind=2
   ·have hnil:qw body [i]= []:=by rw [qc3,if_pos (.inr h2)]
    rw [if_neg h3,if_pos h2];split
    ·exact nodup_nil
    ·exact ih a (by simpa [hnil] using wr)
   ·have hpv:qw body [i]=qba (body.getD i default).atom.args:=by rw [qc3,if_neg (fun h=>h.elim h3 h2)]
    rw [if_neg h3,if_neg h2];rw [hpv]at wr;have hstep: ∀a' t,qcd a (body.getD i default).atom.args t=some a'->qgn body is (fun x=> ∃v,a' x=some v):=fun a' t hf=>by
     have:=(qfn hf).2.1;have e:(fun x=> ∃v,a' x=some v)=fun x=>(∃v,a x=some v)∨x∈qba (body.getD i default).atom.args:=funext fun x=>propext (this x);rw [e];exact wr
    have key: ∀t b,b∈(match qcd a (body.getD i default).atom.args t with |some a'=>qbh J body is a' |none=> [])->(body.getD i default).atom.args.map (qy b)=t.map some:=fun t b hb=>by
     split at hb
     ·rename_i a' hf;obtain⟨f1,f2,f3⟩:=qfn hf;obtain⟨g1,-,-⟩:=(qk0 is a' b (hstep a' t hf)).1 hb;rw [←f3];refine map_congr_left fun x hx=>?_;have:qy a' x∈(body.getD i default).atom.args.map (qy a'):=mem_map_of_mem hx;rw [f3]at this;obtain⟨y,-,hy⟩:=mem_map.1 this;exact qgo ⟨y,hy.symm⟩ g1
     ·cases hb
    have hn:=hJ i
    revert hn
    generalize J.pos i=l;intro hn
    induction l with
    |nil=>simp
    |cons t l ihl=>
     rw [nodup_cons]at hn;rw [flatMap_cons,nodup_append];refine⟨?_,ihl hn.2,?_⟩
     ·split
      ·rename_i a' hf;exact ih a' (hstep a' t hf)
      ·exact nodup_nil
     ·intro b hb c hc e;subst e;obtain⟨t2,ht2,hc⟩:=mem_flatMap.1 hc;have e1:=key t b hb;have e2:=key t2 b hc;rw [e1]at e2;have:t=t2:=(List.map_inj_right (fun x y h=>by cases h;rfl)).1 e2;subst this;exact hn.1 ht2
end Go.Ink
