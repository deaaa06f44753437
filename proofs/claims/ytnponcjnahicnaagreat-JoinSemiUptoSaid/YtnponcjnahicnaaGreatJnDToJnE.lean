/- Parts of the proof. -/
import Derived.Test.YtnponcjnahicnaaGreatJnBToJnC
import Derived.Test.YtnponcjnahicnaaGreatProg
import Derived.Test.YtnponcjnahicnaaGreatPnVToPnW
set_option linter.unusedSimpArgs false
set_option linter.unusedVariables false
open List(all_cons all_eq_true any_eq_false filter_append filter_cons filter_cons_of_neg filter_cons_of_pos filter_sublist flatMap_append foldl_cons getD_eq_getElem?_getD getElem?_cons_succ getElem?_cons_zero getElem?_eq_getElem getElem?_eq_none getElem?_replicate getElem?_set_ne getElem?_set_self getElem_mem length_cons length_erase_of_mem length_filter_le length_flatMap length_map length_pos_of_mem length_take map_append map_congr_left map_cons map_const' map_inj_left map_nil mem_append mem_cons mem_cons_of_mem mem_cons_self mem_erase_of_ne mem_filter mem_flatMap mem_map mem_map_of_mem mem_singleton nodup_append nodup_cons not_mem_nil pairwise_cons sum_replicate_nat take_add_one)
namespace Go.Ink
structure ql where
 pred:ByteArray
 tuple:List ByteArray
 deriving DecidableEq,Inhabited
def qo (c:List ql)(p:ByteArray)(n:Nat):List (List ByteArray):=(c.filter fun f=>decide (f.pred=p/\f.tuple.length=n)).map (·.tuple)
theorem qjn (c d:List ql)(p:ByteArray)(n:Nat):qo (c++d) p n=qo c p n++qo d p n:=by
 unfold qo;rw [filter_append,map_append]
theorem qay {c:List ql}{p:ByteArray}{n:Nat}{t:List ByteArray}:t∈qo c p n↔(⟨p,t⟩:ql)∈c/\t.length=n:=by
 unfold qo;rw [mem_map];constructor
 ·rintro⟨f,hf,rfl⟩;rw [mem_filter]at hf;obtain⟨h1,h2⟩:=hf;obtain⟨h2,h3⟩:=of_decide_eq_true h2;obtain⟨fp,ft⟩:=f;simp only at h2;subst h2;exact⟨h1,h3⟩
 ·rintro⟨h1,h2⟩;exact⟨⟨p,t⟩,mem_filter.2 ⟨h1,decide_eq_true ⟨rfl,h2⟩⟩,rfl⟩
theorem qhu {c:List ql}(h:c.Nodup)(p:ByteArray)(n:Nat):(qo c p n).Nodup:=by
 induction c with
 |nil=>simp [qo]
 |cons f c ih=>
  rw [nodup_cons]at h;have e:f::c= [f]++c:=rfl;rw [e,qjn,nodup_append];refine⟨?_,ih h.2,fun a ha b hb he=>?_⟩
  ·unfold qo;rw [filter_cons];split<;>simp
  ·subst he;obtain⟨h1,-⟩:=qay.1 ha;obtain⟨h2,-⟩:=qay.1 hb;rw [mem_singleton]at h1;rw [←h1]at h;exact h.1 h2
theorem qjo (c:List ql)(p:ByteArray)(n:Nat):(qo c p n).length<=c.length:=by
 unfold qo;rw [length_map];exact length_filter_le _ _
theorem qtq (f:ql)(p:ByteArray)(n:Nat):qo [f] p n=if f.pred=p/\f.tuple.length=n then [f.tuple] else []:=by
 unfold qo;by_cases h:f.pred=p/\f.tuple.length=n
 ·rw [if_pos h,filter_cons_of_pos (by simpa using h)]
  rfl
 ·rw [if_neg h,filter_cons_of_neg (by simpa using h)]
  rfl
def qcl (ok:ql->Bool)(c:List ql)(f:ql):List ql:=if ok f=true/\f∉c then c++ [f] else c
def qbb (ok:ql->Bool)(l:List ql):List ql:=l.foldl (qcl ok) []
theorem q3e (ok:ql->Bool)(c:List ql)(f:ql):(qcl ok c f).length<=c.length+1:=by
 unfold qcl;split
 ·simp
 ·omega
theorem q5l {ok:ql->Bool}{c:List ql}(h: ∀f,f∈c->ok f=true)(f:ql): ∀g,g∈qcl ok c f->ok g=true:=by
 unfold qcl;split
 ·rename_i hf;intro g hg;rcases mem_append.1 hg with hg |hg
  ·exact h g hg
  ·rw [mem_singleton]at hg;rw [hg];exact hf.1
 ·exact h
theorem qz8 (ok:ql->Bool)(l:List ql): ∀c,(l.foldl (qcl ok) c).length<=c.length+l.length:=by
 induction l with
 |nil=>intro c;simp
 |cons f l ih=>
  intro c;rw [foldl_cons,length_cons];have:=ih (qcl ok c f);have:=q3e ok c f;omega
def qcc (body:List LitD)(pos:Nat->List ql)(neg:List ql):qa7 where
 pos i:=qo (pos i) (body.getD i default).atom.pred (body.getD i default).atom.args.length
 neg i:=qo neg (body.getD i default).atom.pred (body.getD i default).atom.args.length
def qao (a:Asg):List TermD->Nat->List (Nat×ByteArray)
 | [],_=> []
 |t::ts,k=>match qy a t with
  |some y=>(k,y)::qao a ts (k+1)
  |none=>qao a ts (k+1)
def qi4 (a:Asg)(ts:List TermD):List Int:=(qao a ts 0).map fun p=>(p.1:Int)
def qok (a:Asg)(ts:List TermD):List ByteArray:=(qao a ts 0).map (·.2)
theorem qz9 (a:Asg)(us:List TermD): ∀(ts:List TermD) (k:Nat),qao a (ts++us) k=qao a ts k++qao a us (k+ts.length):=by
 intro ts
 induction ts with
 |nil=>intro k;rfl
 |cons t ts ih=>
  intro k;have e:qao a (t::ts++us) k=match qy a t with
   |some y=>(k,y)::qao a (ts++us) (k+1)
   |none=>qao a (ts++us) (k+1):=rfl
  have e2:qao a (t::ts) k=match qy a t with
   |some y=>(k,y)::qao a ts (k+1)
   |none=>qao a ts (k+1):=rfl
  rw [e,e2,ih,length_cons,show k+1+ts.length=k+(ts.length+1) by omega];split<;>simp
theorem qx0 (a:Asg)(ts:List TermD){k:Nat}{t:TermD}(h:ts[k]?=some t):qao a (ts.take (k+1)) 0=qao a (ts.take k) 0++(match qy a t with |some y=> [(k,y)] |none=> []):=by
 have hl:=(List.getElem?_eq_some_iff.1 h).1;rw [take_add_one,h,qz9,length_take,Nat.min_eq_left (by omega),Nat.zero_add]
 rfl
theorem qmt {a:Asg}: ∀{ts:List TermD} {k:Nat} {p:Nat×ByteArray},p∈qao a ts k->k<=p.1/\p.1<k+ts.length:=by
 intro ts
 induction ts with
 |nil=>intro k p h;cases h
 |cons t ts ih=>
  intro k p h;unfold qao at h;rw [length_cons];split at h
  ·rcases mem_cons.1 h with rfl |h
   ·simp only;omega
   ·have:=ih h;omega
  ·have:=ih h;omega
theorem qx1 {a:Asg}: ∀{ts:List TermD} {k:Nat},(qao a ts k).Pairwise fun p q=>p.1<q.1:=by
 intro ts
 induction ts with
 |nil=>intro k;exact List.Pairwise.nil
 |cons t ts ih=>
  intro k;unfold qao;split
  ·rw [pairwise_cons];refine⟨fun q hq=>?_,ih⟩;have:=qmt hq;simp only;omega
  ·exact ih
theorem qmu (a:Asg): ∀(ts:List TermD) (k:Nat),(qao a ts k).length<=ts.length:=by
 intro ts
 induction ts with
 |nil=>intro k;simp [qao]
 |cons t ts ih=>
  intro k;unfold qao;have:=ih (k+1);split
  ·rw [length_cons,length_cons];omega
  ·rw [length_cons];omega
def qjp (a:Asg):List TermD->List ByteArray->Bool
 |t::ts,x::xs=>(match qy a t with |some y=>decide (y=x) |none=>true)&&qjp a ts xs
 |_,_=>true
theorem q0a {a:Asg}: ∀{ts:List TermD} {xs:List ByteArray} {k:Nat},ts.length=xs.length->qjp a ts xs=(qao a ts k).all fun p=>decide (xs[p.1-k]?=some p.2):=by
 intro ts
 induction ts with
 |nil=>intro xs k h;rfl
 |cons t ts ih=>
  intro xs k h;cases xs with
  |nil=>cases h
  |cons x xs=>
   rw [length_cons,length_cons]at h;have e:((qao a ts (k+1)).all fun p=>decide (xs[p.1-(k+1)]?=some p.2))=(qao a ts (k+1)).all fun p=>decide ((x::xs)[p.1-k]?=some p.2):=by
    rw [Bool.eq_iff_iff,all_eq_true,all_eq_true];refine forall_congr' fun p=>forall_congr' fun hp=>?_;have:=qmt hp;rw [show p.1-k=(p.1-(k+1))+1 by omega,getElem?_cons_succ]
   unfold qjp qao;rw [ih (k:=k+1) (by omega),e];split
   ·rename_i y hy;rw [all_cons,Nat.sub_self,getElem?_cons_zero]
    congr 1
    by_cases hxy:y=x
    ·rw [hxy];simp
    ·rw [decide_eq_false hxy,decide_eq_false];intro h2;cases h2;exact hxy rfl
   ·rw [Bool.true_and]
theorem q5m {ts:List TermD}: ∀{a b:Asg} {xs:List ByteArray},ExtA b a->qjp b ts xs=false->qcd a ts xs=none:=by
 induction ts with
 |nil=>intro a b xs _ h;unfold qjp at h;cases h
 |cons t ts ih=>
  intro a b xs hE h;cases xs with
  |nil=>rfl
  |cons x xs=>
   unfold qjp at h;rw [Bool.and_eq_false_iff]at h;unfold qcd;split
   ·rename_i y hy;split
    ·rename_i he;subst he;rcases h with h |h
     ·exfalso;split at h
      ·rename_i z hz;have:=qjl hE hz;rw [hy]at this;cases this;simp at h
      ·cases h
     ·exact ih hE h
    ·rfl
   ·rename_i hy;obtain⟨-,hn⟩:=qms hy;rcases h with h |h
    ·exfalso;split at h
     ·rename_i z hz;have:=qjl hE hz;rw [hy]at this;cases this
     ·cases h
    ·exact ih (hE.trans (qtj hn)) h
theorem q0b {α:Type}[DecidableEq α]: ∀{l m:List α},l.Nodup->(∀x,x∈l->x∈m)->l.length<=m.length:=by
 intro l
 induction l with
 |nil=>intro m _ _;simp
 |cons x l ih=>
  intro m hn h;rw [nodup_cons]at hn;have hx:=h x (mem_cons_self ..);have:=ih (m:=m.erase x) hn.2 (fun y hy=>by
   refine(mem_erase_of_ne (fun e=>?_)).2 (h y (mem_cons_of_mem _ hy));subst e;exact hn.1 hy)
  rw [length_erase_of_mem hx]at this;have hp:=length_pos_of_mem hx;rw [length_cons];omega
def qol (T:List ByteArray):Nat->List (List ByteArray)
 |0=> [[]]
 |n+1=>T.flatMap fun t=>(qol T n).map (t:: ·)
theorem q3g (T:List ByteArray): ∀n,(qol T n).length=T.length^n:=by
 intro n
 induction n with
 |zero=>rfl
 |succ n ih=>
  unfold qol;rw [length_flatMap];have:(T.map fun t=>((qol T n).map (t:: ·)).length)=T.map fun _=>T.length^n:=map_congr_left fun t _=>by rw [length_map,ih]
  rw [this,map_const',sum_replicate_nat,Nat.pow_succ,Nat.mul_comm]
theorem q3h {T:List ByteArray}: ∀{r:List ByteArray},(∀x,x∈r->x∈T)->r∈qol T r.length:=by
 intro r
 induction r with
 |nil=>intro _;exact mem_singleton.2 rfl
 |cons x r ih=>
  intro h;rw [length_cons];unfold qol;exact mem_flatMap.2 ⟨x,h x (mem_cons_self ..),mem_map.2 ⟨r,ih (fun y hy=>h y (mem_cons_of_mem _ hy)),rfl⟩⟩
def qq (l:List ByteArray)(s:ByteArray):List ByteArray:=if s∈l then l else l++ [s]
def qpj (l:List ByteArray)(f:ql):List ByteArray:=f.tuple.foldl qq l
def qci:List ql->List ByteArray->List ByteArray
 | [],l=>l
 |f::fs,l=>if l.length<=400 then qci fs (qpj l f) else l
def qe8 (r:RuleD):List ByteArray:=((qw r.body (qag r.body))).foldl qq []
def qfo (many:Nat):List ByteArray->Nat->Bool
 | [],_=>false
 |_::xs,n=>if 20000<n*many then true else qfo many xs (n*many)
def qel (r:RuleD)(many:Nat):Bool:=qfo many (qe8 r) 1
def qgh (r:RuleD)(l:List ql):Bool:=if 400<l.length then true else decide (400<(qci l []).length) ||qel r (qci l []).length
theorem qc9 {x:ByteArray}: ∀{ts l:List ByteArray},x∈ts.foldl qq l↔x∈l∨x∈ts:=by
 intro ts
 induction ts with
 |nil=>intro l;simp
 |cons t ts ih=>
  intro l;rw [foldl_cons,ih,mem_cons];unfold qq;split
  ·rename_i h;constructor
   ·rintro(h |h)
    ·exact .inl h
    ·exact .inr (.inr h)
   ·rintro(h |rfl |h)
    ·exact .inl h
    ·exact .inl ‹_›
    ·exact .inr h
  ·rw [mem_append,mem_singleton,or_assoc]
theorem qe9: ∀(ts l:List ByteArray),l.length<=(ts.foldl qq l).length/\(ts.foldl qq l).length<=l.length+ts.length:=by
 intro ts
 induction ts with
 |nil=>intro l;simp
 |cons t ts ih=>
  intro l;rw [foldl_cons,length_cons];have:=ih (qq l t);have h2:l.length<=(qq l t).length/\(qq l t).length<=l.length+1:=by
   unfold qq;split
   ·omega
   ·simp
  omega
theorem qjq: ∀{fs:List ql} {l:List ByteArray},l.length<=(qci fs l).length/\((qci fs l).length<=400->(∀x,x∈l->x∈qci fs l)/\ ∀f s,f∈fs->s∈f.tuple->s∈qci fs l):=by
 intro fs
 induction fs with
 |nil=>intro l;exact⟨Nat.le_refl _,fun _=>⟨fun x h=>h,fun f s h=>by cases h⟩⟩
 |cons f fs ih=>
  intro l;unfold qci;split
  ·rename_i hl;obtain⟨h1,h2⟩:=ih (l:=qpj l f);have h3:=qe9 f.tuple l;refine⟨Nat.le_trans h3.1 h1,fun hx=>?_⟩;obtain⟨h4,h5⟩:=h2 hx;refine⟨fun x hx=>h4 x (qc9.2 (.inl hx)),fun g s hg hs=>?_⟩;rcases mem_cons.1 hg with rfl |hg
   ·exact h4 s (qc9.2 (.inr hs))
   ·exact h5 g s hg hs
  ·rename_i hl;exact⟨Nat.le_refl _,fun h=>absurd h hl⟩
theorem qvq {many:Nat}: ∀{xs:List ByteArray} {n:Nat},n<=20000->qfo many xs n=false->n*many^xs.length<=20000:=by
 intro xs
 induction xs with
 |nil=>intro n h _;simpa using h
 |cons x xs ih=>
  intro n h hc;unfold qfo at hc;split at hc
  ·cases hc
  ·rename_i hn;have:=ih (n:=n*many) (by omega) hc;rw [length_cons,Nat.pow_succ,Nat.mul_comm (many^xs.length),←Nat.mul_assoc];exact this
theorem qks {r:RuleD}{J:qa7}{T:List ByteArray}(hJ: ∀i,(J.pos i).Nodup)(hT: ∀i t s,t∈J.pos i->s∈t->s∈T)(hc:qel r T.length=false):(qbd J r.body).length<=20000:=by
 have hn:(qbd J r.body).Nodup:=List.Pairwise.filter _ (qkd hJ _ qb3 (by rw [qfx];exact qk1 _ _ _ fun i hi=>(qc8 hi).2));have hmem: ∀x,x∈qe8 r↔x∈qw r.body (qag r.body):=fun x=>by unfold qe8;rw [qc9];simp
 have hval: ∀b,b∈qbd J r.body-> ∀x,x∈qe8 r-> ∃v,b x=some v/\v∈T:=fun b hb x hx=>by
  obtain⟨⟨h1,h2,h3⟩,-⟩:=qe0.1 hb;obtain⟨i,hi,-,hx⟩:=qg8.1 ((hmem x).1 hx);have hh:=h3 i hi;have hk:=(qc8 hi).2;unfold qbm at hk;unfold qek at hh;rw [if_neg (by omega),if_neg (by omega)]at hh;obtain⟨t,ht,he⟩:=hh;unfold qba at hx;obtain⟨u,hu,rfl⟩:=mem_map.1 hx;rw [mem_filter]at hu;have:qy b u∈(r.body.getD i default).atom.args.map (qy b):=mem_map_of_mem hu.1;rw [he]at this;obtain⟨v,hv,he2⟩:=mem_map.1 this;unfold qy at he2;rw [if_pos hu.2]at he2;exact⟨v,he2.symm,hT i t v ht hv⟩
 have hinj:((qbd J r.body).map fun b=>(qe8 r).map fun x=>(b x).getD ⟨#[]⟩).Nodup:=by
  have hd: ∀b,b∈qbd J r.body->qg3 qb3 b (qw r.body (qag r.body)):=fun b hb=>(qe0.1 hb).1.2.1
  revert hn hd hval
  generalize qbd J r.body=l;intro hn hval hd
  induction l with
  |nil=>simp
  |cons b l ih=>
   rw [nodup_cons]at hn;rw [map_cons,nodup_cons];refine⟨fun hm=>?_,ih hn.2 (fun c hc=>hval c (mem_cons_of_mem _ hc)) (fun c hc=>hd c (mem_cons_of_mem _ hc))⟩;obtain⟨c,hc,he⟩:=mem_map.1 hm;have:c=b:=by
    have hdb:=hd b (mem_cons_self ..);have hdc:=hd c (mem_cons_of_mem _ hc);refine qtl (a:=qb3) (xs:=qw r.body (qag r.body)) (fun x v hx=>?_) hdc hdb;have hxm:x∈qe8 r:=(hmem x).2 (((hdc x).1 ⟨v,hx⟩).elim (fun⟨v,h⟩=>by cases h) id);obtain⟨u,hu,-⟩:=hval b (mem_cons_self ..) x hxm;have:=map_inj_left.1 he x hxm;rw [hx,hu]at this;rw [hu];exact congrArg some this.symm
   subst this;exact hn.1 hc
 have hsub: ∀y,y∈((qbd J r.body).map fun b=>(qe8 r).map fun x=>(b x).getD ⟨#[]⟩)->y∈qol T (qe8 r).length:=fun y hy=>by
  obtain⟨b,hb,rfl⟩:=mem_map.1 hy;have:=q3h (T:=T) (r:=(qe8 r).map fun x=>(b x).getD ⟨#[]⟩) (fun z hz=>by
   obtain⟨x,hx,rfl⟩:=mem_map.1 hz;obtain⟨v,hv,hvT⟩:=hval b hb x hx;rw [hv];exact hvT)
  rw [length_map]at this;exact this
 have h1:=q0b hinj hsub;rw [length_map,q3g]at h1;have h2:=qvq (n:=1) (by omega) hc;omega
end Go.Ink
namespace Go.Proofs
open Go.RowKit Go.Ink Go.Flt P16
theorem q3i {body:List LitD}{i:Nat}: ∀(is:List Nat) (K:ByteArray->Prop),qgn body is K->qgn body [i] (fun x=>K x∨x∈qw body is)->qgn body (is++ [i]) K:=by
 intro is
 induction is with
 |nil=>
  intro K _ h;have e:(fun x=>K x∨x∈qw body [])=K:=funext fun x=>propext ⟨fun h=>h.elim id (fun h=>by cases h),.inl⟩;rw [e]at h;exact h
 |cons k is ih=>
  intro K hw h;obtain⟨w1,w2,w3⟩:=hw;refine⟨w1,w2,ih _ w3 ?_⟩;have e:(fun x=>(K x∨x∈qw body [k])∨x∈qw body is)=fun x=>K x∨x∈qw body (k::is):=funext fun x=>propext (by
   have:qw body (k::is)=qw body [k]++qw body is:=by unfold qw;simp
   rw [this,mem_append,or_assoc])
  rw [e];exact h
theorem qjr {r:RuleD}(h:qax r=true):qio r.body:=fun i hi=>by
 unfold qax at h;rw [Bool.and_eq_true,Bool.and_eq_true,all_eq_true]at h;have hg:r.body.getD i default=r.body[i]:=by rw [getD_eq_getElem?_getD,getElem?_eq_getElem hi];rfl
 have:=h.2 r.body[i] (getElem_mem hi);unfold qbm;rw [hg];unfold qdp at this;split at this
 ·rename_i h1;omega
 ·split at this
  ·rename_i h1;omega
  ·cases this
structure q7p (r:RuleD)(s:MkS):Prop where
 way:qgn r.body (s.steps.map fun x=>x.lit.toNat) (fun _=>False)
 known: ∀x,x∈s.K↔x∈qw r.body (s.steps.map fun x=>x.lit.toNat)
 taken: ∀i,i<r.body.length->(s.taken.getD i true=true↔i∈s.steps.map fun x=>x.lit.toNat)
 low: ∀i,i∈(s.steps.map fun x=>x.lit.toNat)->i<r.body.length
theorem q6z {r:RuleD}{sizes:List qai}{first:Int}(hF:qax r=true)(hu:qbu sizes=true)(hs:qd6 r=true)(hf:qaz r first=false)(j:Nat)(hj:j<=r.body.length):q7p r (qbs r sizes first j):=by
 induction j with
 |zero=>
  refine⟨trivial,fun x=>by simp [qbs,qw],fun i hi=>?_,fun i hi=>by simp [qbs] at hi⟩;simp only [qbs,map_nil,not_mem_nil,iff_false];rw [getD_eq_getElem?_getD,getElem?_replicate,if_pos hi];simp
 |succ j ih=>
  have ih:=ih (by omega);obtain⟨k,hk1,hk2,hk3,hk4⟩:=qik (sizes:=sizes) hs hf (show j<r.body.length by omega) (qns hu hs hf j (by omega)) (fun h=>by subst h;rfl);have e:qbs r sizes first (j+1)=qh1 r sizes (k:Int) (qbs r sizes first j):=by
   show qh1 r sizes (qgy r sizes first j (qbs r sizes first j)) (qbs r sizes first j)=_;rw [hk1]
  rw [e];generalize qbs r sizes first j=s at ih hk3 hk4⊢
  have hkind:=qjr hF k hk2;unfold qbm at hkind;unfold qh1;simp only [Int.toNat_natCast];have hlit:(qbe s.K (r.body.getD k default) (k:Int)).lit.toNat=k:=by unfold qbe;split<;>simp
  refine⟨?_,fun x=>?_,fun i hi=>?_,fun i hi=>?_⟩
  ·simp only [map_append,map_cons,map_nil,hlit];refine q3i _ _ ih.way ⟨fun h3 t ht hv=>?_,fun h2 t ht hv=>?_,trivial⟩
   all_goals
    refine .inr ((ih.known _).1 ?_);rcases hk4 with h1 |h1
    ·omega
    ·unfold qcm at h1;rw [Bool.or_eq_true]at h1;rcases h1 with h1 |h1
     ·have:=of_decide_eq_true h1;omega
     ·have h1:(qe3 (r.body.getD k default)).any (qcf s.K)=false:=by simpa using h1
      rw [any_eq_false]at h1;unfold qe3 at h1
      first
       |rw [if_pos h3] at h1
        have h4:=h1 t (by rcases ht with rfl |rfl<;>simp);unfold qcf at h4;rw [hv]at h4
        simpa using h4
       |rw [if_neg (by omega)] at h1
        have h4:=h1 t ht;unfold qcf at h4;rw [hv]at h4
        simpa using h4
  ·simp only [map_append,map_cons,map_nil,hlit];have hp: ∀is:List Nat,qw r.body (is++ [k])=qw r.body is++qw r.body [k]:=fun is=>by unfold qw;rw [flatMap_append]
   rw [qry,hp,mem_append,ih.known,qc3];by_cases h1:(r.body.getD k default).kind=1
   ·have hnew:(qbe s.K (r.body.getD k default) (k:Int)).new=qb1 s.K (r.body.getD k default).atom.args:=by unfold qbe;rw [if_neg (by omega)]
    rw [if_neg (by omega),hnew,qlu,ih.known];have hvv:x∈qi6 (r.body.getD k default).atom.args↔x∈qba (r.body.getD k default).atom.args:=qfy _ x;rw [hvv];constructor
    ·rintro(h |h)
     ·exact .inl h
     ·exact .inr h.1
    ·intro h;by_cases hx:x∈qw r.body (s.steps.map fun x=>x.lit.toNat)
     ·exact .inl hx
     ·exact .inr ⟨h.resolve_left hx,hx⟩
   ·rw [if_pos (by omega)];constructor
    ·rintro(h |h)
     ·exact .inl h
     ·exfalso;rcases hkind with h3 |h3 |h3
      ·exact h1 h3
      ·have hnew:(qbe s.K (r.body.getD k default) (k:Int)).new=qb1 s.K (r.body.getD k default).atom.args:=by unfold qbe;rw [if_neg (by omega)]
       rw [hnew,qlu]at h;rcases hk4 with h4 |h4
       ·exact h1 h4
       ·unfold qcm at h4;rw [Bool.or_eq_true]at h4;rcases h4 with h4 |h4
        ·exact h1 (of_decide_eq_true h4)
        ·have h4:(qe3 (r.body.getD k default)).any (qcf s.K)=false:=by simpa using h4
         rw [any_eq_false]at h4;unfold qe3 at h4;rw [if_neg (by omega)]at h4;obtain⟨t,ht,rfl⟩:=mem_map.1 ((qfy _ x).1 h.1);rw [mem_filter]at ht;have h5:=h4 t ht.1;unfold qcf at h5;rw [ht.2]at h5;exact h.2 (by simpa using h5)
      ·have hnew:(qbe s.K (r.body.getD k default) (k:Int)).new= []:=by unfold qbe;rw [if_pos h3]
       rw [hnew]at h;cases h
    ·rintro(h |h)
     ·exact .inl h
     ·cases h
  ·simp only [map_append,map_cons,map_nil,hlit,mem_append,mem_singleton];rw [←ih.taken i hi];by_cases hik:i=k
   ·subst hik;have hl:i<s.taken.length:=by
     by_cases h:i<s.taken.length
     ·exact h
     ·rw [getD_eq_getElem?_getD,getElem?_eq_none (by omega)]at hk3;cases hk3
    rw [getD_eq_getElem?_getD,getElem?_set_self hl];simp
   ·rw [getD_eq_getElem?_getD,getElem?_set_ne (fun e=>hik e.symm),←getD_eq_getElem?_getD];simp [hik]
  ·simp only [map_append,map_cons,map_nil,hlit,mem_append,mem_singleton]at hi;rcases hi with hi |rfl
   ·exact ih.low i hi
   ·exact hk2
def qgq (r:RuleD)(sizes:List qai)(first:Int):List Nat:=(qbs r sizes first r.body.length).steps.map fun x=>x.lit.toNat
theorem qhv {r:RuleD}{sizes:List qai}{first:Int}(h:qd3 r sizes (qaz r first)=0):qxz r.body (qgq r sizes first)/\qio r.body/\qgn r.body (qgq r sizes first) (fun _=>False):=by
 have hp:qax r=true/\qbu sizes=true/\qaz r first=false/\qd6 r=true:=by
  unfold qd3 at h;cases h1:qax r<;>cases h2:qbu sizes<;>cases h3:qd6 r<;>cases h4:qaz r first<;>rw [h1,h2,h3,h4] at h<;>first |exact⟨rfl,rfl,rfl,rfl⟩ |(exfalso;revert h;decide)
 obtain⟨hF,hu,hf,hs⟩:=hp;have hw:=q6z (sizes:=sizes) hF hu hs hf r.body.length (Nat.le_refl _);have ho:=qns (sizes:=sizes) (first:=first) hu hs hf r.body.length (Nat.le_refl _);refine⟨fun i=>⟨hw.low i,fun hi=>?_⟩,qjr hF,hw.way⟩;refine(hw.taken i hi).1 ?_;generalize qbs r sizes first r.body.length=s at ho
 have hfull:s.taken.filter id=s.taken:=filter_sublist.eq_of_length (by rw [ho.cnt,ho.len]);have hm: ∀b,b∈s.taken->b=true:=fun b hb=>by
  rw [←hfull,mem_filter]at hb;exact hb.2
 have hl:i<s.taken.length:=by rw [ho.len];exact hi
 rw [getD_eq_getElem?_getD,getElem?_eq_getElem hl];exact hm _ (getElem_mem hl)
end Go.Proofs
