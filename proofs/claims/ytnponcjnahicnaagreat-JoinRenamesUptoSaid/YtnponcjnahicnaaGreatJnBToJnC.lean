/- Parts of the proof. -/
import Derived.Test.YtnponcjnahicnaaGreatJnA
set_option linter.unusedSimpArgs false
set_option linter.unusedVariables false
open List(all_eq_true foldl_cons getD_eq_getElem?_getD getElem?_eq_getElem getElem_mem length_cons map_append map_cons map_inj_left map_map mem_append mem_cons mem_cons_of_mem mem_cons_self mem_filter mem_flatMap mem_map mem_range mem_singleton nodup_cons pairwise_cons)
namespace Go.Ink
def ltL:List Nat->List Nat->Bool
 | [],[]=>false
 | [],_::_=>true
 |_::_,[]=>false
 |x::xs,y::ys=>if x<y then true else if y<x then false else ltL xs ys
theorem qp1: ∀a,ltL a a=false:=by
 intro a
 induction a with
 |nil=>rfl
 |cons x xs ih=>unfold ltL;rw [if_neg (by omega),if_neg (by omega)];exact ih
theorem qrt: ∀{a b c:List Nat},ltL a b=true->ltL b c=true->ltL a c=true:=by
 intro a
 induction a with
 |nil=>
  intro b c h g;cases b with
  |nil=>cases h
  |cons y ys=>
   cases c with
   |nil=>cases g
   |cons z zs=>rfl
 |cons x xs ih=>
  intro b c h g;cases b with
  |nil=>cases h
  |cons y ys=>
   cases c with
   |nil=>cases g
   |cons z zs=>
    unfold ltL at h g⊢;by_cases h1:x<y
    ·by_cases g1:y<z
     ·rw [if_pos (by omega)]
     ·rw [if_neg g1]at g;by_cases g2:z<y
      ·rw [if_pos g2]at g;cases g
      ·rw [if_pos (by omega)]
    ·rw [if_neg h1]at h;by_cases h2:y<x
     ·rw [if_pos h2]at h;cases h
     ·rw [if_neg h2]at h;by_cases g1:y<z
      ·rw [if_pos (by omega)]
      ·rw [if_neg g1]at g;by_cases g2:z<y
       ·rw [if_pos g2]at g;cases g
       ·rw [if_neg g2]at g;rw [if_neg (by omega),if_neg (by omega)];exact ih h g
theorem q0g: ∀{a b:List Nat},ltL a b=false->ltL b a=false->a=b:=by
 intro a
 induction a with
 |nil=>
  intro b h g;cases b with
  |nil=>rfl
  |cons y ys=>cases h
 |cons x xs ih=>
  intro b h g;cases b with
  |nil=>cases g
  |cons y ys=>
   unfold ltL at h g;by_cases h1:x<y
   ·rw [if_pos h1]at h;cases h
   ·by_cases h2:y<x
    ·rw [if_pos h2]at g;cases g
    ·rw [if_neg h1,if_neg h2]at h;rw [if_neg h2,if_neg h1]at g;have:x=y:=by omega
     rw [this,ih h g]
def qp2 (s:ByteArray):List Nat:=s.data.toList.map UInt8.toNat
theorem q0h {a b:ByteArray}(h:qp2 a=qp2 b):a=b:=by
 unfold qp2 at h;have:=(List.map_inj_right (fun x y h=>UInt8.toNat_inj.1 h)).1 h;cases a;cases b
 congr
 exact Array.toList_inj.1 this
def ltS (a b:ByteArray):Bool:=ltL (qp2 a) (qp2 b)
def ltR:List ByteArray->List ByteArray->Bool
 | [],[]=>false
 | [],_::_=>true
 |_::_,[]=>false
 |x::xs,y::ys=>if ltS x y=true then true else if ltS y x=true then false else ltR xs ys
theorem qlw (a:ByteArray):ltS a a=false:=qp1 _
theorem qi3 {a b:ByteArray}(h:ltS a b=false)(g:ltS b a=false):a=b:=q0h (q0g h g)
theorem q0i {a b c:ByteArray}(h:ltS a b=true)(g:ltS b c=true):ltS a c=true:=qrt h g
theorem qru {a b:ByteArray}(h:ltS a b=true):ltS b a=false:=by
 cases g:ltS b a with
 |false=>rfl
 |true=>
  have:=qrt h g;rw [qp1]at this;cases this
theorem qlx: ∀a,ltR a a=false:=by
 intro a
 induction a with
 |nil=>rfl
 |cons x xs ih=>
  unfold ltR;rw [qlw,if_neg (by simp),if_neg (by simp)];exact ih
theorem qrv: ∀{a b c:List ByteArray},ltR a b=true->ltR b c=true->ltR a c=true:=by
 intro a
 induction a with
 |nil=>
  intro b c h g;cases b with
  |nil=>cases h
  |cons y ys=>
   cases c with
   |nil=>cases g
   |cons z zs=>rfl
 |cons x xs ih=>
  intro b c h g;cases b with
  |nil=>cases h
  |cons y ys=>
   cases c with
   |nil=>cases g
   |cons z zs=>
    unfold ltR at h g⊢;by_cases h1:ltS x y=true
    ·by_cases g1:ltS y z=true
     ·rw [if_pos (q0i h1 g1)]
     ·rw [if_neg g1]at g;by_cases g2:ltS z y=true
      ·rw [if_pos g2]at g;cases g
      ·have e:y=z:=qi3 (by simpa using g1) (by simpa using g2);subst e;rw [if_pos h1]
    ·rw [if_neg h1]at h;by_cases h2:ltS y x=true
     ·rw [if_pos h2]at h;cases h
     ·rw [if_neg h2]at h;have e:x=y:=qi3 (by simpa using h1) (by simpa using h2);subst e;by_cases g1:ltS x z=true
      ·rw [if_pos g1]
      ·rw [if_neg g1]at g;by_cases g2:ltS z x=true
       ·rw [if_pos g2]at g;cases g
       ·rw [if_neg g2]at g;rw [if_neg g1,if_neg g2];exact ih h g
theorem q0j: ∀{a b:List ByteArray},ltR a b=false->ltR b a=false->a=b:=by
 intro a
 induction a with
 |nil=>
  intro b h g;cases b with
  |nil=>rfl
  |cons y ys=>cases h
 |cons x xs ih=>
  intro b h g;cases b with
  |nil=>cases g
  |cons y ys=>
   unfold ltR at h g;by_cases h1:ltS x y=true
   ·rw [if_pos h1]at h;cases h
   ·by_cases h2:ltS y x=true
    ·rw [if_pos h2]at g;cases g
    ·rw [if_neg h1,if_neg h2]at h;rw [if_neg h2,if_neg h1]at g;have e:x=y:=qi3 (by simpa using h1) (by simpa using h2);rw [e,ih h g]
theorem q0k {a b:List ByteArray}(h:ltR a b=true):ltR b a=false:=by
 cases g:ltR b a with
 |false=>rfl
 |true=>
  have:=qrv h g;rw [qlx]at this;cases this
structure qat where
 head:List ByteArray
 vals:List ByteArray
 deriving DecidableEq,Inhabited
def qee:List qat->qat->List qat
 | [],m=> [m]
 |x::xs,m=>if ltR x.vals m.vals=true then x::qee xs m else m::x::xs
def qgo (l:List qat):List qat:=l.foldl qee []
def qhj (l:List qat):Prop:=l.Pairwise fun x y=>ltR x.vals y.vals=true
theorem qq6 {l:List qat}{m x:qat}:x∈qee l m↔x∈l∨x=m:=by
 induction l with
 |nil=>unfold qee;simp
 |cons y ys ih=>
  unfold qee;split
  ·rw [mem_cons,ih,mem_cons,or_assoc]
  ·rw [mem_cons,mem_cons];constructor
   ·rintro(h |h |h)
    ·exact .inr h
    ·exact .inl (.inl h)
    ·exact .inl (.inr h)
   ·rintro((h |h) |h)
    ·exact .inr (.inl h)
    ·exact .inr (.inr h)
    ·exact .inl h
theorem q5r (l:List qat)(m:qat):(qee l m).length=l.length+1:=by
 induction l with
 |nil=>rfl
 |cons y ys ih=>
  unfold qee;split
  ·rw [length_cons,ih,length_cons]
  ·rfl
theorem q3p {l:List qat}{m:qat}(h:qhj l)(hm: ∀x,x∈l->x.vals≠m.vals):qhj (qee l m):=by
 induction l with
 |nil=>unfold qee qhj;simp
 |cons y ys ih=>
  unfold qhj at h;rw [pairwise_cons]at h;unfold qee;split
  ·rename_i hy;unfold qhj;rw [pairwise_cons];refine⟨fun x hx=>?_,ih h.2 (fun x hx=>hm x (mem_cons_of_mem _ hx))⟩;rcases qq6.1 hx with hx |rfl
   ·exact h.1 x hx
   ·exact hy
  ·rename_i hy;have hlt:ltR m.vals y.vals=true:=by
    cases g:ltR m.vals y.vals with
    |true=>rfl
    |false=>exact absurd (q0j (by simpa using hy) g) (hm y (mem_cons_self ..))
   unfold qhj;rw [pairwise_cons];refine⟨fun x hx=>?_,pairwise_cons.2 h⟩;rcases mem_cons.1 hx with rfl |hx
   ·exact hlt
   ·exact qrv hlt (h.1 x hx)
theorem qw8 {l:List qat}: ∀{acc:List qat},(∀x,x∈l.foldl qee acc↔x∈acc∨x∈l)/\(l.foldl qee acc).length=acc.length+l.length:=by
 induction l with
 |nil=>intro acc;simp
 |cons m l ih=>
  intro acc;obtain⟨h1,h2⟩:=ih (acc:=qee acc m);refine⟨fun x=>?_,?_⟩
  ·rw [foldl_cons,h1,qq6,mem_cons,or_assoc]
  ·rw [foldl_cons,h2,q5r,length_cons];omega
theorem qhp {l:List qat}{x:qat}:x∈qgo l↔x∈l:=by
 unfold qgo;rw [qw8.1];simp
theorem qhq (l:List qat):(qgo l).length=l.length:=by
 unfold qgo;rw [qw8.2];simp
theorem qtw {l:List qat}: ∀{acc:List qat},qhj acc->(l.map (·.vals)).Nodup->(∀x,x∈acc->x.vals∉l.map (·.vals))->qhj (l.foldl qee acc):=by
 induction l with
 |nil=>intro acc h _ _;exact h
 |cons m l ih=>
  intro acc h hn hd;rw [map_cons,nodup_cons]at hn;refine ih (q3p h (fun x hx e=>hd x hx (by rw [e];exact mem_cons_self ..))) hn.2 (fun x hx hc=>?_);rcases qq6.1 hx with hx |rfl
  ·exact hd x hx (mem_cons_of_mem _ hc)
  ·exact hn.1 hc
theorem qrw {l:List qat}(h:(l.map (·.vals)).Nodup):qhj (qgo l):=qtw List.Pairwise.nil h (fun x hx=>by cases hx)
theorem q0l: ∀{l k:List qat},qhj l->qhj k->(∀x,x∈l↔x∈k)->l=k:=by
 intro l
 induction l with
 |nil=>
  intro k _ _ h;cases k with
  |nil=>rfl
  |cons y ys=>exact absurd ((h y).2 (mem_cons_self ..)) (by simp)
 |cons x xs ih=>
  intro k hl hk h;cases k with
  |nil=>exact absurd ((h x).1 (mem_cons_self ..)) (by simp)
  |cons y ys=>
   unfold qhj at hl hk;rw [pairwise_cons]at hl hk;have e:x=y:=by
    rcases mem_cons.1 ((h x).1 (mem_cons_self ..)) with e |hx
    ·exact e
    ·rcases mem_cons.1 ((h y).2 (mem_cons_self ..)) with e |hy
     ·exact e.symm
     ·have h1:=hk.1 x hx;have h2:=hl.1 y hy;rw [q0k h1]at h2;cases h2
   subst e
   congr 1
   refine ih hl.2 hk.2 fun z=>?_;have hz:=h z;rw [mem_cons,mem_cons]at hz;constructor
   ·intro hm;rcases hz.1 (.inr hm) with rfl |h1
    ·have:=hl.1 z hm;rw [qlx]at this;cases this
    ·exact h1
   ·intro hm;rcases hz.2 (.inr hm) with rfl |h1
    ·have:=hk.1 z hm;rw [qlx]at this;cases this
    ·exact h1
theorem q0m {l k:List qat}(hl:(l.map (·.vals)).Nodup)(hk:(k.map (·.vals)).Nodup)(h: ∀x,x∈l↔x∈k):qgo l=qgo k:=
 q0l (qrw hl) (qrw hk) (fun x=>by rw [qhp,qhp,h])
def qad (r:RuleD):List ByteArray:=qa7 r.names
def qb7 (r:RuleD)(b:Asg):qat:=⟨r.head.args.map (qb3 b),(qad r).map fun x=>(b x).getD ⟨#[]⟩⟩
def qbx (body:List LitD)(i:Nat):Int:=(body.getD i default).kind
def qbp (body:List LitD):List Nat:=(List.range body.length).filter fun i=>qbx body i==1
def qs5 (J:qba)(body:List LitD)(b:Asg):Bool:=
 (List.range body.length).all fun i=>if qbx body i=3 then q8 b (body.getD i default).left !=q8 b (body.getD i default).right
  else if qbx body i=2 then !decide ((body.getD i default).atom.args.map (qb3 b)∈J.neg i) else true
def qcd (J:qba)(body:List LitD):List Asg:=(qbg J body (qbp body) qcb).filter (qs5 J body)
def qd0 (J:qba)(r:RuleD):List qat:=qgo ((qcd J r.body).map (qb7 r))
def qyc (body:List LitD)(is:List Nat):Prop:= ∀i,i∈is↔i<body.length
def qdk (body:List LitD):Prop:= ∀i,i<body.length->qbx body i=1∨qbx body i=2∨qbx body i=3
def q68 (r:RuleD):Prop:= ∀x,x∈r.names->x∈qz r.body (qbp r.body)
theorem qgv:(fun x=> ∃v,qcb x=some v)=fun _=>False:=funext fun x=>propext ⟨fun⟨v,h⟩=>(by cases h),False.elim⟩
theorem qlb (body:List LitD): ∀(is:List Nat) (K:ByteArray->Prop),(∀i,i∈is->qbx body i=1)->qgt body is K:=by
 intro is
 induction is with
 |nil=>intro K _;trivial
 |cons i is ih=>
  intro K h;have h1:=h i (mem_cons_self ..);unfold qbx at h1;refine⟨fun h3=>?_,fun h2=>?_,ih _ (fun k hk=>h k (mem_cons_of_mem _ hk))⟩
  ·rw [h1]at h3;cases h3
  ·rw [h1]at h2;cases h2
theorem qef {body:List LitD}{i:Nat}(h:i∈qbp body):i<body.length/\qbx body i=1:=by
 unfold qbp at h;rw [mem_filter,mem_range]at h;exact⟨h.1,by simpa using h.2⟩
theorem qge {body:List LitD}{is:List Nat}{x:ByteArray}:x∈qz body is↔ ∃i,i∈is/\ ¬(qbx body i=3∨qbx body i=2)/\x∈qac (body.getD i default).atom.args:=by
 unfold qz qbx;rw [mem_flatMap];constructor
 ·rintro⟨i,hi,hx⟩;split at hx
  ·cases hx
  ·rename_i h;exact⟨i,hi,h,hx⟩
 ·rintro⟨i,hi,h,hx⟩;exact⟨i,hi,by rw [if_neg h];exact hx⟩
theorem qk2 {body:List LitD}{is:List Nat}(ha:qyc body is)(hk:qdk body)(x:ByteArray):x∈qz body is↔x∈qz body (qbp body):=by
 rw [qge,qge];constructor
 ·rintro⟨i,hi,h,hx⟩;have hl:=(ha i).1 hi;refine⟨i,?_,h,hx⟩;unfold qbp;rw [mem_filter,mem_range];rcases hk i hl with h1 |h1 |h1
  ·exact⟨hl,by simpa using h1⟩
  ·exact absurd (.inr h1) h
  ·exact absurd (.inl h1) h
 ·rintro⟨i,hi,h,hx⟩;exact⟨i,(ha i).2 (qef hi).1,h,hx⟩
theorem qtx {J:qba}{body:List LitD}{b:Asg}:qs5 J body b=true↔ ∀i,i<body.length->qbx body i=2∨qbx body i=3->qfq J body b i:=by
 unfold qs5;rw [all_eq_true];unfold qfq qbx;constructor
 ·intro h i hi hk;have:=h i (mem_range.2 hi);split at this
  ·rename_i h3;rw [if_pos h3]
   simpa using this
  ·rename_i h3;rw [if_neg h3];split at this
   ·rename_i h2;rw [if_pos h2]
    simpa using this
   ·rename_i h2;rcases hk with hk |hk
    ·exact absurd hk h2
    ·exact absurd hk h3
 ·intro h i hi;have hi:=mem_range.1 hi;split
  ·rename_i h3;have:=h i hi (.inr h3);rw [if_pos h3]at this
   simpa using this
  ·rename_i h3;split
   ·rename_i h2;have:=h i hi (.inl h2);rw [if_neg h3,if_pos h2]at this
    simpa using this
   ·rfl
theorem qq7 {J:qba}{body:List LitD}{is:List Nat}(ha:qyc body is)(hk:qdk body)(hw:qgt body is (fun _=>False))(b:Asg):b∈qbg J body is qcb↔b∈qcd J body:=by
 unfold qcd;rw [mem_filter,qla is qcb b (by rw [qgv];exact hw),qla (qbp body) qcb b (by rw [qgv];exact qlb _ _ _ fun i hi=>(qef hi).2),qtx];constructor
 ·rintro⟨h1,h2,h3⟩;refine⟨⟨h1,fun x=>?_,fun i hi=>h3 i ((ha i).2 (qef hi).1)⟩,fun i hi _=>h3 i ((ha i).2 hi)⟩;rw [h2 x,qk2 ha hk]
 ·rintro⟨⟨h1,h2,h3⟩,h4⟩;refine⟨h1,fun x=>?_,fun i hi=>?_⟩
  ·rw [h2 x,qk2 ha hk]
  ·have hl:=(ha i).1 hi;rcases hk i hl with h |h |h
   ·refine h3 i ?_;unfold qbp;rw [mem_filter,mem_range];exact⟨hl,by simpa using h⟩
   ·exact h4 i hl (.inl h)
   ·exact h4 i hl (.inr h)
theorem qjl {J:qba}{body:List LitD}{b:Asg}:b∈qcd J body↔(ExtA qcb b/\qgs qcb b (qz body (qbp body))/\ ∀i,i∈qbp body->qfq J body b i)/\qs5 J body b=true:=by
 unfold qcd;rw [mem_filter,qla (qbp body) qcb b (by rw [qgv];exact qlb _ _ _ fun i hi=>(qef hi).2)]
theorem qly {r:RuleD}{L:LitD}{t:TermD}(hL:L∈r.lits)(ht:t∈L.terms)(hv:t.var=true):t.text∈r.names:=by
 have go: ∀(ls:List LitD) (i:Nat),L∈ls->t.text∈(qcv ls i).map (·.2):=by
  intro ls
  induction ls with
  |nil=>intro i h;cases h
  |cons M ls ih=>
   intro i h;unfold qcv;rw [map_append,mem_append];rcases mem_cons.1 h with rfl |h
   ·refine .inl ?_;rw [map_map];unfold LitD.uses;rw [map_map];exact mem_map.2 ⟨t,mem_filter.2 ⟨ht,hv⟩,rfl⟩
   ·exact .inr (ih (i+1) h)
 exact go r.lits 0 hL
theorem qeg (l:List ByteArray)(x:ByteArray):x∈qa7 l↔x∈l:=by
 have go: ∀(l acc:List ByteArray),x∈l.foldl (fun acc x=>if x∈acc then acc else acc++ [x]) acc↔x∈acc∨x∈l:=by
  intro l
  induction l with
  |nil=>intro acc;simp
  |cons y l ih=>
   intro acc;rw [foldl_cons,ih,mem_cons];split
   ·rename_i hy;constructor
    ·rintro(h |h)
     ·exact .inl h
     ·exact .inr (.inr h)
    ·rintro(h |rfl |h)
     ·exact .inl h
     ·exact .inl hy
     ·exact .inr h
   ·rw [mem_append,mem_singleton,or_assoc]
 unfold qa7;rw [go];simp
theorem q3q {r:RuleD}{b c:Asg}{xs:List ByteArray}(hx: ∀x,x∈xs->x∈qad r)(hb:qgs qcb b xs)(hc:qgs qcb c xs)(h:(qb7 r b).vals=(qb7 r c).vals):b=c:=by
 refine funext fun x=>?_;have hn: ∀a:Asg,qgs qcb a xs->((∃v,a x=some v)↔x∈xs):=fun a ha=>by
  rw [ha x];constructor
  ·rintro(⟨v,h⟩ |h)
   ·cases h
   ·exact h
  ·exact .inr
 by_cases hm:x∈xs
 ·obtain⟨v,hv⟩:=(hn b hb).2 hm;obtain⟨u,hu⟩:=(hn c hc).2 hm;have:(b x).getD ⟨#[]⟩=(c x).getD ⟨#[]⟩:=by
   unfold qb7 at h;exact map_inj_left.1 h x (hx x hm)
  rw [hv,hu]at this;rw [hv,hu];exact congrArg some this
 ·cases h1:b x with
  |some v=>exact absurd ((hn b hb).1 ⟨v,h1⟩) hm
  |none=>
   cases h2:c x with
   |some v=>exact absurd ((hn c hc).1 ⟨v,h2⟩) hm
   |none=>rfl
theorem qp3 {r:RuleD}{l:List Asg}{xs:List ByteArray}(hx: ∀x,x∈xs->x∈qad r)(hl: ∀b,b∈l->qgs qcb b xs)(hn:l.Nodup):((l.map (qb7 r)).map (·.vals)).Nodup:=by
 rw [map_map]
 induction l with
 |nil=>simp
 |cons b l ih=>
  rw [nodup_cons]at hn;rw [map_cons,nodup_cons];refine⟨fun hm=>?_,ih (fun c hc=>hl c (mem_cons_of_mem _ hc)) hn.2⟩;obtain⟨c,hc,he⟩:=mem_map.1 hm;have:=q3q hx (hl c (mem_cons_of_mem _ hc)) (hl b (mem_cons_self ..)) he;subst this;exact hn.1 hc
theorem qrx {r:RuleD}{x:ByteArray}(h:x∈qz r.body (qbp r.body)):x∈qad r:=by
 obtain⟨i,hi,-,hx⟩:=qge.1 h;obtain⟨hl,hk⟩:=qef hi;unfold qbx at hk;unfold qac at hx;obtain⟨t,ht,rfl⟩:=mem_map.1 hx;rw [mem_filter]at ht;unfold qad;rw [qeg];have hg:r.body.getD i default=r.body[i]:=by rw [getD_eq_getElem?_getD,getElem?_eq_getElem hl];rfl
 refine qly (L:=r.body.getD i default) ?_ ?_ ht.2
 ·rw [hg];exact mem_cons_of_mem _ (getElem_mem hl)
 ·unfold LitD.terms;rw [if_pos (.inl hk)];exact ht.1
theorem q5s {J:qba}{r:RuleD}{is:List Nat}(hJ: ∀i,(J.pos i).Nodup)(ha:qyc r.body is)(hk:qdk r.body)(hw:qgt r.body is (fun _=>False)):
  qgo ((qbg J r.body is qcb).map (qb7 r))=qd0 J r:=by
 have hd: ∀b,b∈qcd J r.body->qgs qcb b (qz r.body (qbp r.body)):=fun b hb=>(qjl.1 hb).1.2.1;have hn1:(qbg J r.body is qcb).Nodup:=qko hJ is qcb (by rw [qgv];exact hw);have hn2:(qcd J r.body).Nodup:=List.Pairwise.filter _ (qko hJ _ qcb (by rw [qgv];exact qlb _ _ _ fun i hi=>(qef hi).2));unfold qd0;refine q0m (qp3 (fun x hx=>qrx hx) (fun b hb=>hd b ((qq7 ha hk hw b).1 hb)) hn1) (qp3 (fun x hx=>qrx hx) hd hn2) fun m=>?_;rw [mem_map,mem_map];constructor
 ·rintro⟨b,hb,rfl⟩;exact⟨b,(qq7 ha hk hw b).1 hb,rfl⟩
 ·rintro⟨b,hb,rfl⟩;exact⟨b,(qq7 ha hk hw b).2 hb,rfl⟩
end Go.Ink
