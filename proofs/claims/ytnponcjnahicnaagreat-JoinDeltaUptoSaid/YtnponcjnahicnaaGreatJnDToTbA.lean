/- Parts of the proof. -/
import Derived.Test.YtnponcjnahicnaaGreatJnBToJnC
import Derived.Test.YtnponcjnahicnaaGreatPnW
set_option linter.unusedSimpArgs false
set_option linter.unusedVariables false
set_option maxRecDepth 100000
open Go.Proofs.Tryz(prog)
open List(all_cons filter_nil filter_sublist foldl_cons getElem?_cons_succ getElem?_cons_zero getElem?_set_ne getElem?_set_self getElem?_zipIdx getElem_idxOf length_cons length_erase_of_mem length_flatMap length_pos_of_mem map_const' map_inj_left mem_erase_of_ne mem_map_of_mem pairwise_cons sum_replicate_nat zipIdx_append zipIdx_map_fst)
namespace Go.Ink
structure qk where
 pred:ByteArray
 tuple:List ByteArray
 deriving DecidableEq,Inhabited
def qv (c:List qk)(p:ByteArray)(n:Nat):List (List ByteArray):=(c.filter fun f=>decide (f.pred=p/\f.tuple.length=n)).map (·.tuple)
theorem qiy (c d:List qk)(p:ByteArray)(n:Nat):qv (c++d) p n=qv c p n++qv d p n:=by
 unfold qv;rw [yV,zn]
theorem qco {c:List qk}{p:ByteArray}{n:Nat}{t:List ByteArray}:t∈qv c p n↔(⟨p,t⟩:qk)∈c/\t.length=n:=by
 unfold qv;rw [yL];constructor
 ·rintro⟨f,hf,rfl⟩;rw [yX]at hf;obtain⟨d,b⟩:=hf;obtain⟨b,e⟩:=yE b;obtain⟨g,h⟩:=f;simp only at b;subst b;exact⟨d,e⟩
 ·rintro⟨d,b⟩;exact⟨⟨p,t⟩,yX.2 ⟨d,zS ⟨rfl,b⟩⟩,rfl⟩
theorem qly {c:List qk}(h:c.Nodup)(p:ByteArray)(n:Nat):(qv c p n).Nodup:=by
 induction c with
 |nil=>simp [qv]
 |cons f c ih=>
  rw [xU]at h;have e:f::c= [f]++c:=rfl;rw [e,qiy,xY];refine⟨?_,ih h.2,fun a q b g l=>?_⟩
  ·unfold qv;rw [yg];split<;>simp
  ·subst l;obtain⟨d,-⟩:=qco.1 q;obtain⟨m,-⟩:=qco.1 g;rw [zm]at d;rw [←d]at h;exact h.1 m
theorem qj2 (c:List qk)(p:ByteArray)(n:Nat):(qv c p n).length<=c.length:=by
 unfold qv;rw [zL];exact yf _ _
theorem qpg (f:qk)(p:ByteArray)(n:Nat):qv [f] p n=if f.pred=p/\f.tuple.length=n then [f.tuple] else []:=by
 unfold qv;by_cases h:f.pred=p/\f.tuple.length=n
 ·rw [zI h,xX (by simpa using h)]
  rfl
 ·rw [zF h,xi (by simpa using h)]
  rfl
def qed (ok:qk->Bool)(c:List qk)(f:qk):List qk:=if ok f=true/\f∉c then c++ [f] else c
def qbw (ok:qk->Bool)(l:List qk):List qk:=l.foldl (qed ok) []
theorem q46 (b:qk->Bool)(c:List qk)(f:qk):(qed b c f).length<=c.length+1:=by
 unfold qed;split
 ·simp
 ·omega
theorem q68 {d:qk->Bool}{c:List qk}(h: ∀f,f∈c->d f=true)(f:qk): ∀g,g∈qed d c f->d g=true:=by
 unfold qed;split
 ·rename_i hf;intro g b;rcases zr.1 b with b |b
  ·exact h g b
  ·rw [zm]at b;rw [b];exact hf.1
 ·exact h
theorem q1y (b:qk->Bool)(l:List qk): ∀c,(l.foldl (qed b) c).length<=c.length+l.length:=by
 induction l with
 |nil=>intro c;simp
 |cons f l ih=>
  intro c;rw [foldl_cons,length_cons];have:=ih (qed b c f);have:=q46 b c f;omega
def qd3 (body:List LitD)(pos:Nat->List qk)(neg:List qk):qbd where
 pos i:=qv (pos i) (body.getD i default).atom.pred (body.getD i default).atom.args.length
 neg i:=qv neg (body.getD i default).atom.pred (body.getD i default).atom.args.length
theorem qx5 {ts:List TermD}: ∀{a:Asg} {xs:List ByteArray},ts.length≠xs.length->qbg a ts xs=none:=by
 induction ts with
 |nil=>
  intro a xs h;cases xs with
  |nil=>exact absurd rfl h
  |cons x xs=>rfl
 |cons t ts ih=>
  intro a xs h;cases xs with
  |nil=>rfl
  |cons x xs=>
   rw [length_cons,length_cons]at h;unfold qbg;split
   ·split
    ·exact ih wC
    ·rfl
   ·exact ih wC
theorem q47 (c:List qk)(p:ByteArray)(ts:List TermD)(a:Asg){β:Type}(g:Asg->List β):
  ((c.filter fun f=>decide (f.pred=p)).flatMap fun f=>match qbg a ts f.tuple with |some a'=>g a' |none=> [])=
  (qv c p ts.length).flatMap fun t=>match qbg a ts t with |some a'=>g a' |none=> []:=by
 induction c with
 |nil=>rfl
 |cons f c ih=>
  have e:f::c= [f]++c:=rfl;rw [e,qiy,yG,yV,yG,ih,qpg]
  congr 1
  by_cases b:f.pred=p
  ·rw [xX (by simpa using b),filter_nil,yF,xp,yQ];by_cases d:f.tuple.length=ts.length
   ·rw [zI ⟨b,d⟩,yF,xp,yQ]
   ·rw [zF (fun h=>d h.2),qx5 (fun h=>d h.symm)]
    rfl
  ·rw [xi (by simpa using b),filter_nil,xp,zF (fun h=>b h.1),xp]
def qar (a:Asg):List TermD->Nat->List (Nat×ByteArray)
 | [],_=> []
 |t::ts,k=>match qaa a t with
  |some y=>(k,y)::qar a ts (k+1)
  |none=>qar a ts (k+1)
def qjp (a:Asg)(ts:List TermD):List Int:=(qar a ts 0).map fun p=>(p.1:Int)
def qph (a:Asg)(ts:List TermD):List ByteArray:=(qar a ts 0).map (·.2)
theorem q1z (a:Asg)(b:List TermD): ∀(ts:List TermD) (k:Nat),qar a (ts++b) k=qar a ts k++qar a b (k+ts.length):=by
 intro ts
 induction ts with
 |nil=>intro k;rfl
 |cons t ts ih=>
  intro k;have e:qar a (t::ts++b) k=match qaa a t with
   |some y=>(k,y)::qar a (ts++b) (k+1)
   |none=>qar a (ts++b) (k+1):=rfl
  have c:qar a (t::ts) k=match qaa a t with
   |some y=>(k,y)::qar a ts (k+1)
   |none=>qar a ts (k+1):=rfl
  rw [e,c,ih,length_cons,show k+1+ts.length=k+(ts.length+1) from wC];split<;>simp
theorem qzc (a:Asg)(ts:List TermD){k:Nat}{t:TermD}(h:ts[k]?=some t):qar a (ts.take (k+1)) 0=qar a (ts.take k) 0++(match qaa a t with |some y=> [(k,y)] |none=> []):=by
 have b:=(zA.1 h).1;rw [zh,h,q1z,yC,xS wC,zD]
 rfl
theorem qna {a:Asg}: ∀{ts:List TermD} {k:Nat} {p:Nat×ByteArray},p∈qar a ts k->k<=p.1/\p.1<k+ts.length:=by
 intro ts
 induction ts with
 |nil=>intro k p h;cases h
 |cons t ts ih=>
  intro k p h;unfold qar at h;rw [length_cons];split at h
  ·rcases zw.1 h with rfl |h
   ·simp only;omega
   ·have:=ih h;omega
  ·have:=ih h;omega
theorem qzd {a:Asg}: ∀{ts:List TermD} {k:Nat},(qar a ts k).Pairwise fun p q=>p.1<q.1:=by
 intro ts
 induction ts with
 |nil=>intro k;exact List.Pairwise.nil
 |cons t ts ih=>
  intro k;unfold qar;split
  ·rw [pairwise_cons];refine⟨fun q b=>?_,ih⟩;have:=qna b;simp only;omega
  ·exact ih
theorem qnb (a:Asg): ∀(ts:List TermD) (k:Nat),(qar a ts k).length<=ts.length:=by
 intro ts
 induction ts with
 |nil=>intro k;simp [qar]
 |cons t ts ih=>
  intro k;unfold qar;have:=ih (k+1);split
  ·rw [length_cons,length_cons];omega
  ·rw [length_cons];omega
def qj3 (a:Asg):List TermD->List ByteArray->Bool
 |t::ts,x::xs=>(match qaa a t with |some y=>decide (y=x) |none=>true)&&qj3 a ts xs
 |_,_=>true
theorem q13 {a:Asg}: ∀{ts:List TermD} {xs:List ByteArray} {k:Nat},ts.length=xs.length->qj3 a ts xs=(qar a ts k).all fun p=>decide (xs[p.1-k]?=some p.2):=by
 intro ts
 induction ts with
 |nil=>intro xs k h;rfl
 |cons t ts ih=>
  intro xs k h;cases xs with
  |nil=>cases h
  |cons x xs=>
   rw [length_cons,length_cons]at h;have e:((qar a ts (k+1)).all fun p=>decide (xs[p.1-(k+1)]?=some p.2))=(qar a ts (k+1)).all fun p=>decide ((x::xs)[p.1-k]?=some p.2):=by
    rw [yx,yM,yM];refine forall_congr' fun p=>forall_congr' fun c=>?_;have:=qna c;rw [show p.1-k=(p.1-(k+1))+1 from wC,getElem?_cons_succ]
   unfold qj3 qar;rw [ih (k:=k+1) wC,e];split
   ·rename_i y hy;rw [all_cons,xa,getElem?_cons_zero]
    congr 1
    by_cases b:y=x
    ·rw [b];simp
    ·rw [zM b,zM];intro d;cases d;exact b rfl
   ·rw [yW]
theorem q69 {ts:List TermD}: ∀{a b:Asg} {xs:List ByteArray},ExtA b a->qj3 b ts xs=false->qbg a ts xs=none:=by
 induction ts with
 |nil=>intro a b xs _ h;unfold qj3 at h;cases h
 |cons t ts ih=>
  intro a b xs c h;cases xs with
  |nil=>rfl
  |cons x xs=>
   unfold qj3 at h;rw [Bool.and_eq_false_iff]at h;unfold qbg;split
   ·rename_i y hy;split
    ·rename_i he;subst he;rcases h with h |h
     ·exfalso;split at h
      ·rename_i z hz;have:=qkh c hz;rw [hy]at this;cases this;simp at h
      ·cases h
     ·exact ih c h
    ·rfl
   ·rename_i hy;obtain⟨-,d⟩:=qn2 hy;rcases h with h |h
    ·exfalso;split at h
     ·rename_i z hz;have:=qkh c hz;rw [hy]at this;cases this
     ·cases h
    ·exact ih (c.trans (qv0 d)) h
theorem q14 {α:Type}[DecidableEq α]: ∀{l m:List α},l.Nodup->(∀x,x∈l->x∈m)->l.length<=m.length:=by
 intro l
 induction l with
 |nil=>intro m _ _;simp
 |cons x l ih=>
  intro m b h;rw [xU]at b;have c:=h x (yJ ..);have:=ih (m:=m.erase x) b.2 (fun y d=>by
   refine(mem_erase_of_ne (fun e=>?_)).2 (h y (yD _ d));subst e;exact b.1 d)
  rw [length_erase_of_mem c]at this;have g:=length_pos_of_mem c;rw [length_cons];omega
def qpi (T:List ByteArray):Nat->List (List ByteArray)
 |0=> [[]]
 |n+1=>T.flatMap fun t=>(qpi T n).map (t:: ·)
theorem q48 (T:List ByteArray): ∀n,(qpi T n).length=T.length^n:=by
 intro n
 induction n with
 |zero=>rfl
 |succ n ih=>
  unfold qpi;rw [length_flatMap];have:(T.map fun t=>((qpi T n).map (t:: ·)).length)=T.map fun _=>T.length^n:=xC fun t _=>by rw [zL,ih]
  rw [this,map_const',sum_replicate_nat,Nat.pow_succ,xN]
theorem q49 {T:List ByteArray}: ∀{r:List ByteArray},(∀x,x∈r->x∈T)->r∈qpi T r.length:=by
 intro r
 induction r with
 |nil=>intro _;exact zm.2 rfl
 |cons x r ih=>
  intro h;rw [length_cons];unfold qpi;exact xF.2 ⟨x,h x (yJ ..),yL.2 ⟨r,ih (fun y b=>h y (yD _ b)),rfl⟩⟩
def qr (l:List ByteArray)(s:ByteArray):List ByteArray:=if s∈l then l else l++ [s]
def qqi (l:List ByteArray)(f:qk):List ByteArray:=f.tuple.foldl qr l
def qcx:List qk->List ByteArray->List ByteArray
 | [],l=>l
 |f::fs,l=>if l.length<=400 then qcx fs (qqi l f) else l
def qfo (r:RuleD):List ByteArray:=((q8 r.body (qaf r.body))).foldl qr []
def qf4 (many:Nat):List ByteArray->Nat->Bool
 | [],_=>false
 |_::xs,n=>if 20000<n*many then true else qf4 many xs (n*many)
def qe1 (r:RuleD)(many:Nat):Bool:=qf4 many (qfo r) 1
def qgw (r:RuleD)(l:List qk):Bool:=if 400<l.length then true else decide (400<(qcx l []).length) ||qe1 r (qcx l []).length
theorem qdn {x:ByteArray}: ∀{ts l:List ByteArray},x∈ts.foldl qr l↔x∈l∨x∈ts:=by
 intro ts
 induction ts with
 |nil=>intro l;simp
 |cons t ts ih=>
  intro l;rw [foldl_cons,ih,zw];unfold qr;split
  ·rename_i h;constructor
   ·rintro(h |h)
    ·exact .inl h
    ·exact .inr (.inr h)
   ·rintro(h |rfl |h)
    ·exact .inl h
    ·exact .inl ‹_›
    ·exact .inr h
  ·rw [zr,zm,or_assoc]
theorem qze: ∀{ts l:List ByteArray},l.Nodup->(ts.foldl qr l).Nodup:=by
 intro ts
 induction ts with
 |nil=>intro l h;exact h
 |cons t ts ih=>
  intro l h;rw [foldl_cons];refine ih ?_;unfold qr;split
  ·exact h
  ·rename_i hn;rw [xY];refine⟨h,wE,fun a d b c e=>?_⟩;rw [zm]at c;subst e c;exact hn d
theorem qe2: ∀(ts l:List ByteArray),l.length<=(ts.foldl qr l).length/\(ts.foldl qr l).length<=l.length+ts.length:=by
 intro ts
 induction ts with
 |nil=>intro l;simp
 |cons t ts ih=>
  intro l;rw [foldl_cons,length_cons];have:=ih (qr l t);have b:l.length<=(qr l t).length/\(qr l t).length<=l.length+1:=by
   unfold qr;split
   ·omega
   ·simp
  omega
theorem qnc: ∀{fs:List qk} {l:List ByteArray},l.length<=(qcx fs l).length/\((qcx fs l).length<=400->(∀x,x∈l->x∈qcx fs l)/\ ∀f s,f∈fs->s∈f.tuple->s∈qcx fs l):=by
 intro fs
 induction fs with
 |nil=>intro l;exact⟨zG _,fun _=>⟨fun x h=>h,fun f s h=>by cases h⟩⟩
 |cons f fs ih=>
  intro l;unfold qcx;split
  ·rename_i hl;obtain⟨p,q⟩:=ih (l:=qqi l f);have r:=qe2 f.tuple l;refine⟨zW r.1 p,fun b=>?_⟩;obtain⟨e,m⟩:=q b;refine⟨fun x b=>e x (qdn.2 (.inl b)),fun g s c d=>?_⟩;rcases zw.1 c with rfl |c
   ·exact e s (qdn.2 (.inr d))
   ·exact m g s c d
  ·rename_i hl;exact⟨zG _,fun h=>absurd h hl⟩
theorem qww {many:Nat}: ∀{xs:List ByteArray} {n:Nat},n<=20000->qf4 many xs n=false->n*many^xs.length<=20000:=by
 intro xs
 induction xs with
 |nil=>intro n h _;simpa using h
 |cons x xs ih=>
  intro n h b;unfold qf4 at b;split at b
  ·cases b
  ·rename_i hn;have:=ih (n:=n*many) wC b;rw [length_cons,Nat.pow_succ,xN (many^xs.length),←ye];exact this
theorem qot {r:RuleD}{J:qbd}{T:List ByteArray}(hJ: ∀i,(J.pos i).Nodup)(hT: ∀i t s,t∈J.pos i->s∈t->s∈T)(g:qe1 r T.length=false):(qes J r.body).length<=20000:=by
 have hn:(qes J r.body).Nodup:=List.Pairwise.filter _ (qn3 hJ _ qca (by rw [qg1];exact qob _ _ _ fun i hi=>(qde hi).2));have m: ∀x,x∈qfo r↔x∈q8 r.body (qaf r.body):=fun x=>by unfold qfo;rw [qdn];simp
 have d: ∀b,b∈qes J r.body-> ∀x,x∈qfo r-> ∃v,b x=some v/\v∈T:=fun b R x e=>by
  obtain⟨⟨h1,h2,h3⟩,-⟩:=qlw.1 R;obtain⟨i,hi,-,e⟩:=qgk.1 ((m x).1 e);have hh:=h3 i hi;have hk:=(qde hi).2;unfold qbm at hk;unfold qgi at hh;rw [zF wC,zF wC]at hh;obtain⟨t,ht,he⟩:=hh;unfold qaj at e;obtain⟨u,q,rfl⟩:=yL.1 e;rw [yX]at q;have:qaa b u∈(r.body.getD i default).atom.args.map (qaa b):=mem_map_of_mem q.1;rw [he]at this;obtain⟨v,hv,p⟩:=yL.1 this;unfold qaa at p;rw [zI q.2]at p;exact⟨v,p.symm,hT i t v ht hv⟩
 have X:((qes J r.body).map fun b=>(qfo r).map fun x=>(b x).getD ⟨#[]⟩).Nodup:=by
  have hd: ∀b,b∈qes J r.body->qir qca b (q8 r.body (qaf r.body)):=fun b R=>(qlw.1 R).1.2.1
  revert hn hd d
  generalize qes J r.body=l;intro hn d hd
  induction l with
  |nil=>simp
  |cons b l ih=>
   rw [xU]at hn;rw [yZ,xU];refine⟨fun hm=>?_,ih hn.2 (fun c g=>d c (yD _ g)) (fun c g=>hd c (yD _ g))⟩;obtain⟨c,g,he⟩:=yL.1 hm;have:c=b:=by
    have ag:=hd b (yJ ..);have U:=hd c (yD _ g);refine qv2 (a:=qca) (xs:=q8 r.body (qaf r.body)) (fun x v e=>?_) U ag;have Y:x∈qfo r:=(m x).2 (((U x).1 ⟨v,e⟩).elim (fun⟨v,h⟩=>by cases h) id);obtain⟨u,q,-⟩:=d b (yJ ..) x Y;have:=map_inj_left.1 he x Y;rw [e,q]at this;rw [q];exact yO some this.symm
   subst this;exact hn.1 g
 have ab: ∀y,y∈((qes J r.body).map fun b=>(qfo r).map fun x=>(b x).getD ⟨#[]⟩)->y∈qpi T (qfo r).length:=fun y hy=>by
  obtain⟨b,R,rfl⟩:=yL.1 hy;have:=q49 (T:=T) (r:=(qfo r).map fun x=>(b x).getD ⟨#[]⟩) (fun z hz=>by
   obtain⟨x,e,rfl⟩:=yL.1 hz;obtain⟨v,hv,ae⟩:=d b R x e;rw [hv];exact ae)
  rw [zL]at this;exact this
 have h1:=q14 X ab;rw [zL,q48]at h1;have h2:=qww (n:=1) wC g;omega
end Go.Ink
namespace Go.Proofs
open Go.RowKit Go.Ink Go.Flt P16
theorem q5a {body:List LitD}{i:Nat}: ∀(is:List Nat) (K:ByteArray->Prop),qg9 body is K->qg9 body [i] (fun x=>K x∨x∈q8 body is)->qg9 body (is++ [i]) K:=by
 intro is
 induction is with
 |nil=>
  intro K _ h;have e:(fun x=>K x∨x∈q8 body [])=K:=wB fun x=>propext ⟨fun h=>h.elim id (fun h=>by cases h),.inl⟩;rw [e]at h;exact h
 |cons k is ih=>
  intro K b h;obtain⟨c,g,d⟩:=b;refine⟨c,g,ih _ d ?_⟩;have e:(fun x=>(K x∨x∈q8 body [k])∨x∈q8 body is)=fun x=>K x∨x∈q8 body (k::is):=wB fun x=>propext (by
   have:q8 body (k::is)=q8 body [k]++q8 body is:=by unfold q8;simp
   rw [this,zr,or_assoc])
  rw [e];exact h
theorem qj4 {r:RuleD}(h:qaq r=true):qj1 r.body:=fun i hi=>by
 unfold qaq at h;rw [zV,zV,yM]at h;have b:r.body.getD i default=r.body[i]:=by rw [zJ,zB hi];rfl
 have:=h.2 r.body[i] (xG hi);unfold qbm;rw [b];unfold qcq at this;split at this
 ·rename_i h1;omega
 ·split at this
  ·rename_i h1;omega
  ·cases this
structure q9c (r:RuleD)(s:MkS):Prop where
 way:qg9 r.body (s.steps.map fun x=>x.lit.toNat) (fun _=>False)
 known: ∀x,x∈s.K↔x∈q8 r.body (s.steps.map fun x=>x.lit.toNat)
 taken: ∀i,i<r.body.length->(s.taken.getD i true=true↔i∈s.steps.map fun x=>x.lit.toNat)
 low: ∀i,i∈(s.steps.map fun x=>x.lit.toNat)->i<r.body.length
theorem q8n {r:RuleD}{sizes:List qap}{first:Int}(hF:qaq r=true)(hu:qb6 sizes=true)(hs:qej r=true)(hf:qa3 r first=false)(j:Nat)(hj:j<=r.body.length):q9c r (qb3 r sizes first j):=by
 induction j with
 |zero=>
  refine⟨wH,fun x=>by simp [qb3,q8],fun i hi=>?_,fun i hi=>by simp [qb3] at hi⟩;simp only [qb3,xk,yU,iff_false];rw [zJ,xW,zI hi];simp
 |succ j m=>
  have m:=m wC;obtain⟨k,X,z,v,q⟩:=qi6 (sizes:=sizes) hs hf (show j<r.body.length from wC) (qoi hu hs hf j wC) (fun h=>by subst h;rfl);have e:qb3 r sizes first (j+1)=qik r sizes (k:Int) (qb3 r sizes first j):=by
   show qik r sizes (qhf r sizes first j (qb3 r sizes first j)) (qb3 r sizes first j)=_;rw [X]
  rw [e];generalize qb3 r sizes first j=s at m v q⊢
  have l:=qj4 hF k z;unfold qbm at l;unfold qik;simp only [Int.toNat_natCast];have g:(qbo s.K (r.body.getD k default) (k:Int)).lit.toNat=k:=by unfold qbo;split<;>simp
  refine⟨?_,fun x=>?_,fun i hi=>?_,fun i hi=>?_⟩
  ·simp only [zn,yZ,xk,g];refine q5a _ _ m.way ⟨fun y t p hv=>?_,fun h2 t p hv=>?_,wH⟩
   all_goals
    refine .inr ((m.known _).1 ?_);rcases q with c |c
    ·omega
    ·unfold qc7 at c;rw [ya]at c;rcases c with c |c
     ·have:=yE c;omega
     ·have c:(qff (r.body.getD k default)).any (qcu s.K)=false:=by simpa using c
      rw [xb]at c;unfold qff at c
      first
       |rw [zI y] at c
        have b:=c t (by rcases p with rfl |rfl<;>simp);unfold qcu at b;rw [hv]at b
        simpa using b
       |rw [zF wC] at c
        have b:=c t p;unfold qcu at b;rw [hv]at b
        simpa using b
  ·simp only [zn,yZ,xk,g];have hp: ∀is:List Nat,q8 r.body (is++ [k])=q8 r.body is++q8 r.body [k]:=fun is=>by unfold q8;rw [yG]
   rw [qst,hp,zr,m.known,qdm];by_cases c:(r.body.getD k default).kind=1
   ·have d:(qbo s.K (r.body.getD k default) (k:Int)).new=qcf s.K (r.body.getD k default).atom.args:=by unfold qbo;rw [zF wC]
    rw [zF wC,d,qma,m.known];have U:x∈qjq (r.body.getD k default).atom.args↔x∈qaj (r.body.getD k default).atom.args:=qep _ x;rw [U];constructor
    ·rintro(h |h)
     ·exact .inl h
     ·exact .inr h.1
    ·intro h;by_cases Y:x∈q8 r.body (s.steps.map fun x=>x.lit.toNat)
     ·exact .inl Y
     ·exact .inr ⟨h.resolve_left Y,Y⟩
   ·rw [zI wC];constructor
    ·rintro(h |h)
     ·exact .inl h
     ·exfalso;rcases l with y |y |y
      ·exact c y
      ·have d:(qbo s.K (r.body.getD k default) (k:Int)).new=qcf s.K (r.body.getD k default).atom.args:=by unfold qbo;rw [zF wC]
       rw [d,qma]at h;rcases q with b |b
       ·exact c b
       ·unfold qc7 at b;rw [ya]at b;rcases b with b |b
        ·exact c (yE b)
        ·have b:(qff (r.body.getD k default)).any (qcu s.K)=false:=by simpa using b
         rw [xb]at b;unfold qff at b;rw [zF wC]at b;obtain⟨t,p,rfl⟩:=yL.1 ((qep _ x).1 h.1);rw [yX]at p;have R:=b t p.1;unfold qcu at R;rw [p.2]at R;exact h.2 (by simpa using R)
      ·have d:(qbo s.K (r.body.getD k default) (k:Int)).new= []:=by unfold qbo;rw [zI y]
       rw [d]at h;cases h
    ·rintro(h |h)
     ·exact .inl h
     ·cases h
  ·simp only [zn,yZ,xk,g,zr,zm];rw [←m.taken i hi];by_cases u:i=k
   ·subst u;have hl:i<s.taken.length:=by
     by_cases h:i<s.taken.length
     ·exact h
     ·rw [zJ,xD wC]at v;cases v
    rw [zJ,getElem?_set_self hl];simp
   ·rw [zJ,getElem?_set_ne (fun e=>u e.symm),←zJ];simp [u]
  ·simp only [zn,yZ,xk,g,zr,zm]at hi;rcases hi with hi |rfl
   ·exact m.low i hi
   ·exact z
def qg2 (r:RuleD)(sizes:List qap)(first:Int):List Nat:=(qb3 r sizes first r.body.length).steps.map fun x=>x.lit.toNat
theorem qid {r:RuleD}{sizes:List qap}{first:Int}(h:qeh r sizes (qa3 r first)=0):qzb r.body (qg2 r sizes first)/\qj1 r.body/\qg9 r.body (qg2 r sizes first) (fun _=>False):=by
 have u:qaq r=true/\qb6 sizes=true/\qa3 r first=false/\qej r=true:=by
  unfold qeh at h;cases v:qaq r<;>cases x:qb6 sizes<;>cases z:qej r<;>cases y:qa3 r first<;>rw [v,x,z,y] at h<;>first |exact⟨rfl,rfl,rfl,rfl⟩ |(exfalso;revert h;decide)
 obtain⟨m,p,l,q⟩:=u;have d:=q8n (sizes:=sizes) m p q l r.body.length (zG _);have ho:=qoi (sizes:=sizes) (first:=first) p q l r.body.length (zG _);refine⟨fun i=>⟨d.low i,fun hi=>?_⟩,qj4 m,d.way⟩;refine(d.taken i hi).1 ?_;generalize qb3 r sizes first r.body.length=s at ho
 have c:s.taken.filter id=s.taken:=filter_sublist.eq_of_length (by rw [ho.cnt,ho.len]);have t: ∀b,b∈s.taken->b=true:=fun b e=>by
  rw [←c,yX]at e;exact e.2
 have g:i<s.taken.length:=by rw [ho.len];exact hi
 rw [zJ,zB g];exact t _ (xG g)
end Go.Proofs
namespace Go.Proofs
open Go.RowKit Go.Ink
attribute [local go_sem] Oper.semAt_some
abbrev pV (b:Nat):Value:=.pointer (some ⟨b,0,none⟩)
abbrev qui (i:Nat):Value:=.int .i64 (i:Int)
abbrev qqj (w:World)(b:Nat)(m:List (ByteArray×Nat)):Prop:=MapIn prog 9 Value.string qui w b m
theorem qpj: ∀w:World,(zeroValue 3).run prog w=.ok (.int .i64 0) w:=fun w=>wD
theorem qla:WideMaps.KeyLaw prog 9:=Go.WideMaps.string_law Tryz.underlying9
theorem qlb: ∀a b:ByteArray,Value.string a=Value.string b->a=b:=fun a b h=>by cases h;rfl
theorem qlc {s:ByteArray}(h:s.size<=1073741824): ∃l,keyOf prog 9 (.string s)=some l:=⟨_,Go.WideMaps.keyOf_string_mk Tryz.underlying9 (by simp only [maxLen];omega)⟩
theorem qj5 (xs:List ByteArray):xs.zipIdx.map (·.1)=xs:=by rw [zipIdx_map_fst]
theorem qpk {xs:List ByteArray}(c:xs.Nodup)(s:ByteArray):qdj xs.zipIdx s=if s∈xs then some (xs.idxOf s) else none:=by
 by_cases h:s∈xs
 ·rw [zI h];have hi:xs.idxOf s<xs.length:=yb h;have b:xs.zipIdx[xs.idxOf s]?=some (s,xs.idxOf s):=by
   rw [getElem?_zipIdx,zB hi,getElem_idxOf hi];simp
  exact qpm (p:=(s,xs.idxOf s)) (by rw [qj5];exact c) b
 ·rw [zF h];exact ql5 (by rw [qj5];exact h)
theorem qx6 {xs:List ByteArray}{s:ByteArray}(h:s∉xs):setK xs.zipIdx s xs.length=(xs++ [s]).zipIdx:=by
 unfold setK;rw [qj5,zF h,zipIdx_append];simp
structure TabAt (w:World)(T MX:Nat)(vx:Value)(xs:List ByteArray):Prop where
 tab:w.heap[T]?=some (.cells #[vx,.map (some MX)] 186 (0,0))
 own:w.ownsRow 0 9 1 vx xs.length (xs.map .string)
 nums:qqj w MX xs.zipIdx
theorem TabAt.keep {w w':World}{T MX:Nat}{c:Value}{xs:List ByteArray}{C:Nat->Prop}(h:TabAt w T MX c xs)(hK:Keep C w w')(d:C T)(e:C MX)(g: ∀b,c.ownBlock=some b->C b):TabAt w' T MX c xs:=
 ⟨hK.heap h.tab d,qf h.own hK g,h.nums.keep hK e⟩
theorem TabAt.nodup {w:World}{T MX:Nat}{c:Value}{xs:List ByteArray}(h:TabAt w T MX c xs):xs.Nodup:=by
 obtain⟨_,_,_,_,b,_⟩:=h.nums;rw [qj5]at b;exact b
theorem qfp {w:World}{T MX:Nat}{d:Value}{xs:List ByteArray}(h:TabAt w T MX d xs):Calls prog 94 #[pV T] w fun e w'=>e=.returned (.bool true)/\w'=w:=by
 have c:=qb h.tab 1 _ rfl;have g:=qe h.tab;simp only [zD]at c;clear h;have b: ∀w',(binOp .neq 91 (.map (some MX)) (.map none)).run prog w'=.ok (.bool true) w':=fun w'=>run_neq_map_nil w' _ _ _ (some MX) Tryz.underlying91
 go_enter Tryz.func94,Tryz.ntmps94
 go_wp2;go_ret;exact⟨rfl,rfl⟩
theorem qzf {w:World}{T MX:Nat}{d:Value}{xs:List ByteArray}(h:TabAt w T MX d xs):Calls prog 181 #[pV T] w fun e w'=>e=.returned (.int .i64 (xs.length:Int))/\w'=w:=by
 have g:=qb h.tab 0 _ rfl;have m:=qe h.tab;simp only [zD]at g;obtain⟨a,c,rfl⟩:=qj h.own;refine hd1 ?_ h;clear h;intro l
 go_enter Tryz.func181,Tryz.ntmps181
 go_wp2_with fail;refine(qfp l.o).mono ?_;rintro e p ⟨rfl,b⟩;have b:=b.symm;subst b;go_wp2_with fail;go_ret;exact⟨rfl,rfl⟩
theorem qwx {w:World}{T MX:Nat}{p:Value}{xs:List ByteArray}(h:TabAt w T MX p xs)(s:ByteArray)(q:s.size<=1073741824):
  Calls prog 139 #[pV T,.string s] w fun e w'=>e=.returned (.tuple #[.int .i64 (if s∈xs then ((xs.idxOf s:Nat):Int) else 0),.bool (decide (s∈xs))])/\w'=w:=by
 have m:=qb h.tab 1 _ rfl;have r:=qe h.tab;simp only [zD]at m;have c:=qef (P:=prog) Tryz.underlying91 qla qlb qpj h.nums s (qlc q) true;rw [qpk h.nodup s]at c;refine hd1 ?_ h;clear h;intro g;by_cases d:s∈xs
 ·rw [zI d]at c;simp only [yj]at c;rw [zI d,zS d];clear d
  go_enter Tryz.func139,Tryz.ntmps139
  go_wp2_with fail;refine(qfp g.o).mono ?_;rintro e l ⟨rfl,b⟩;have b:=b.symm;subst b;go_wp2_with fail
  go_ret2
  exact⟨rfl,rfl⟩
 ·rw [zF d]at c;simp only [yj]at c;rw [zF d,zM d];clear d
  go_enter Tryz.func139,Tryz.ntmps139
  go_wp2_with fail;refine(qfp g.o).mono ?_;rintro e l ⟨rfl,b⟩;have b:=b.symm;subst b;go_wp2_with fail
  go_ret2
  exact⟨rfl,rfl⟩
theorem qwy {w:World}{T MX:Nat}{v:Value}{xs:List ByteArray}(h:TabAt w T MX v xs)(n:Nat)(s:ByteArray)(q:xs[n]?=some s)(y:xs.length<=1073741824):
  Calls prog 155 #[pV T,.int .i64 (n:Int)] w fun e w'=>e=.returned (.tuple #[.string s,.bool true])/\w'=w:=by
 have t:=qb h.tab 0 _ rfl;have Y:=qe h.tab;simp only [zD]at t;have l:=qzf h;have u:=(zA.1 q).1;have b:=h.own;obtain⟨a,c,rfl⟩:=qj h.own;obtain⟨g,rfl⟩: ∃g,a=some ⟨g,0,none⟩:=by
  rcases b.2 with ⟨e1,e2⟩ |⟨g,cap,cur,e1,_⟩
  ·exfalso;have:=b.1;rw [e2] at this;simp at this;omega
  ·injection e1 with q1;exact⟨g,q1⟩
 have x:=qcp b n (.string s) (by rw [zP,q];rfl);have m:=qlg b;have r:=m.2.2.1;have R: ¬((n:Int)<0):=wC
 have z: ¬((xs.length:Int)<=n):=wC
 have U:(n:Int)<xs.length:=wC
 have h3:(0:Int)<=n:=wC
 clear q b h;refine hd1 ?_ l;clear l;intro p
 go_enter Tryz.func155,Tryz.ntmps155
 go_wp2_with fail;refine p.o.mono ?_;rintro e X ⟨rfl,d⟩;have d:=d.symm;subst d;go_wp2_with fail
 go_ret2
 exact⟨rfl,rfl⟩
end Go.Proofs
