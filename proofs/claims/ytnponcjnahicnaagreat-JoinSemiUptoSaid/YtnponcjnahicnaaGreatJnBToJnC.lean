/- Parts of the proof. -/
import Derived.Test.YtnponcjnahicnaaGreatJnA
set_option linter.unusedSimpArgs false
set_option linter.unusedVariables false
open List(all_eq_true foldl_cons getD_eq_getElem?_getD getElem?_eq_getElem getElem_mem length_cons map_append map_cons map_inj_left map_map mem_append mem_cons mem_cons_of_mem mem_cons_self mem_filter mem_flatMap mem_map mem_range mem_singleton nodup_cons pairwise_cons)
namespace Go.Ink
def ltL:List Nat->List Nat->Bool
 | [],[]=>false
 | [],_::_=>true
 |_::_,[]=>false
 |x::xs,y::ys=>if x<y then true else if y<x then false else ltL xs ys
theorem qph: ∀a,ltL a a=false:=by
 intro a
 induction a with
 |nil=>rfl
 |cons x xs ih=>unfold ltL;rw [if_neg (by omega),if_neg (by omega)];exact ih
theorem qri: ∀{a b c:List Nat},ltL a b=true->ltL b c=true->ltL a c=true:=by
 intro a
 induction a with
 |nil=>
  intro b c h g;cases b with
  |nil=>cases h
  |cons y ys=>
   cases c with
   |nil=>cases g
   |cons z zs=>rfl
 |cons x xs ih=>
  intro b c h g;cases b with
  |nil=>cases h
  |cons y ys=>
   cases c with
   |nil=>cases g
   |cons z zs=>
    unfold ltL at h g⊢;by_cases h1:x<y
    ·by_cases g1:y<z
     ·rw [if_pos (by omega)]
     ·rw [if_neg g1]at g;by_cases g2:z<y
      ·rw [if_pos g2]at g;cases g
      ·rw [if_pos (by omega)]
    ·rw [if_neg h1]at h;by_cases h2:y<x
     ·rw [if_pos h2]at h;cases h
     ·rw [if_neg h2]at h;by_cases g1:y<z
      ·rw [if_pos (by omega)]
      ·rw [if_neg g1]at g;by_cases g2:z<y
       ·rw [if_pos g2]at g;cases g
       ·rw [if_neg g2]at g;rw [if_neg (by omega),if_neg (by omega)];exact ih h g
theorem qz1: ∀{a b:List Nat},ltL a b=false->ltL b a=false->a=b:=by
 intro a
 induction a with
 |nil=>
  intro b h g;cases b with
  |nil=>rfl
  |cons y ys=>cases h
 |cons x xs ih=>
  intro b h g;cases b with
  |nil=>cases g
  |cons y ys=>
   unfold ltL at h g;by_cases h1:x<y
   ·rw [if_pos h1]at h;cases h
   ·by_cases h2:y<x
    ·rw [if_pos h2]at g;cases g
    ·rw [if_neg h1,if_neg h2]at h;rw [if_neg h2,if_neg h1]at g;have:x=y:=by omega
     rw [this,ih h g]
def qpi (s:ByteArray):List Nat:=s.data.toList.map UInt8.toNat
theorem qz2 {a b:ByteArray}(h:qpi a=qpi b):a=b:=by
 unfold qpi at h;have:=(List.map_inj_right (fun x y h=>UInt8.toNat_inj.1 h)).1 h;cases a;cases b
 congr
 exact Array.toList_inj.1 this
def ltS (a b:ByteArray):Bool:=ltL (qpi a) (qpi b)
def ltR:List ByteArray->List ByteArray->Bool
 | [],[]=>false
 | [],_::_=>true
 |_::_,[]=>false
 |x::xs,y::ys=>if ltS x y=true then true else if ltS y x=true then false else ltR xs ys
theorem qlh (a:ByteArray):ltS a a=false:=qph _
theorem qin {a b:ByteArray}(h:ltS a b=false)(g:ltS b a=false):a=b:=qz2 (qz1 h g)
theorem qz3 {a b c:ByteArray}(h:ltS a b=true)(g:ltS b c=true):ltS a c=true:=qri h g
theorem qrj {a b:ByteArray}(h:ltS a b=true):ltS b a=false:=by
 cases g:ltS b a with
 |false=>rfl
 |true=>
  have:=qri h g;rw [qph]at this;cases this
theorem qi3: ∀a,ltR a a=false:=by
 intro a
 induction a with
 |nil=>rfl
 |cons x xs ih=>
  unfold ltR;rw [qlh,if_neg (by simp),if_neg (by simp)];exact ih
theorem qrk: ∀{a b c:List ByteArray},ltR a b=true->ltR b c=true->ltR a c=true:=by
 intro a
 induction a with
 |nil=>
  intro b c h g;cases b with
  |nil=>cases h
  |cons y ys=>
   cases c with
   |nil=>cases g
   |cons z zs=>rfl
 |cons x xs ih=>
  intro b c h g;cases b with
  |nil=>cases h
  |cons y ys=>
   cases c with
   |nil=>cases g
   |cons z zs=>
    unfold ltR at h g⊢;by_cases h1:ltS x y=true
    ·by_cases g1:ltS y z=true
     ·rw [if_pos (qz3 h1 g1)]
     ·rw [if_neg g1]at g;by_cases g2:ltS z y=true
      ·rw [if_pos g2]at g;cases g
      ·have e:y=z:=qin (by simpa using g1) (by simpa using g2);subst e;rw [if_pos h1]
    ·rw [if_neg h1]at h;by_cases h2:ltS y x=true
     ·rw [if_pos h2]at h;cases h
     ·rw [if_neg h2]at h;have e:x=y:=qin (by simpa using h1) (by simpa using h2);subst e;by_cases g1:ltS x z=true
      ·rw [if_pos g1]
      ·rw [if_neg g1]at g;by_cases g2:ltS z x=true
       ·rw [if_pos g2]at g;cases g
       ·rw [if_neg g2]at g;rw [if_neg g1,if_neg g2];exact ih h g
theorem qz4: ∀{a b:List ByteArray},ltR a b=false->ltR b a=false->a=b:=by
 intro a
 induction a with
 |nil=>
  intro b h g;cases b with
  |nil=>rfl
  |cons y ys=>cases h
 |cons x xs ih=>
  intro b h g;cases b with
  |nil=>cases g
  |cons y ys=>
   unfold ltR at h g;by_cases h1:ltS x y=true
   ·rw [if_pos h1]at h;cases h
   ·by_cases h2:ltS y x=true
    ·rw [if_pos h2]at g;cases g
    ·rw [if_neg h1,if_neg h2]at h;rw [if_neg h2,if_neg h1]at g;have e:x=y:=qin (by simpa using h1) (by simpa using h2);rw [e,ih h g]
theorem qz5 {a b:List ByteArray}(h:ltR a b=true):ltR b a=false:=by
 cases g:ltR b a with
 |false=>rfl
 |true=>
  have:=qrk h g;rw [qi3]at this;cases this
structure qad where
 head:List ByteArray
 vals:List ByteArray
 deriving DecidableEq,Inhabited
def qea:List qad->qad->List qad
 | [],m=> [m]
 |x::xs,m=>if ltR x.vals m.vals=true then x::qea xs m else m::x::xs
def qd5 (l:List qad):List qad:=l.foldl qea []
def qgv (l:List qad):Prop:=l.Pairwise fun x y=>ltR x.vals y.vals=true
theorem qqr {l:List qad}{m x:qad}:x∈qea l m↔x∈l∨x=m:=by
 induction l with
 |nil=>unfold qea;simp
 |cons y ys ih=>
  unfold qea;split
  ·rw [mem_cons,ih,mem_cons,or_assoc]
  ·rw [mem_cons,mem_cons];constructor
   ·rintro(h |h |h)
    ·exact .inr h
    ·exact .inl (.inl h)
    ·exact .inl (.inr h)
   ·rintro((h |h) |h)
    ·exact .inr (.inl h)
    ·exact .inr (.inr h)
    ·exact .inl h
theorem q5k (l:List qad)(m:qad):(qea l m).length=l.length+1:=by
 induction l with
 |nil=>rfl
 |cons y ys ih=>
  unfold qea;split
  ·rw [length_cons,ih,length_cons]
  ·rfl
theorem q3d {l:List qad}{m:qad}(h:qgv l)(hm: ∀x,x∈l->x.vals≠m.vals):qgv (qea l m):=by
 induction l with
 |nil=>unfold qea qgv;simp
 |cons y ys ih=>
  unfold qgv at h;rw [pairwise_cons]at h;unfold qea;split
  ·rename_i hy;unfold qgv;rw [pairwise_cons];refine⟨fun x hx=>?_,ih h.2 (fun x hx=>hm x (mem_cons_of_mem _ hx))⟩;rcases qqr.1 hx with hx |rfl
   ·exact h.1 x hx
   ·exact hy
  ·rename_i hy;have hlt:ltR m.vals y.vals=true:=by
    cases g:ltR m.vals y.vals with
    |true=>rfl
    |false=>exact absurd (qz4 (by simpa using hy) g) (hm y (mem_cons_self ..))
   unfold qgv;rw [pairwise_cons];refine⟨fun x hx=>?_,pairwise_cons.2 h⟩;rcases mem_cons.1 hx with rfl |hx
   ·exact hlt
   ·exact qrk hlt (h.1 x hx)
theorem qwt {l:List qad}: ∀{acc:List qad},(∀x,x∈l.foldl qea acc↔x∈acc∨x∈l)/\(l.foldl qea acc).length=acc.length+l.length:=by
 induction l with
 |nil=>intro acc;simp
 |cons m l ih=>
  intro acc;obtain⟨h1,h2⟩:=ih (acc:=qea acc m);refine⟨fun x=>?_,?_⟩
  ·rw [foldl_cons,h1,qqr,mem_cons,or_assoc]
  ·rw [foldl_cons,h2,q5k,length_cons];omega
theorem qjm {l:List qad}{x:qad}:x∈qd5 l↔x∈l:=by
 unfold qd5;rw [qwt.1];simp
theorem qgp (l:List qad):(qd5 l).length=l.length:=by
 unfold qd5;rw [qwt.2];simp
theorem qtn {l:List qad}: ∀{acc:List qad},qgv acc->(l.map (·.vals)).Nodup->(∀x,x∈acc->x.vals∉l.map (·.vals))->qgv (l.foldl qea acc):=by
 induction l with
 |nil=>intro acc h _ _;exact h
 |cons m l ih=>
  intro acc h hn hd;rw [map_cons,nodup_cons]at hn;refine ih (q3d h (fun x hx e=>hd x hx (by rw [e];exact mem_cons_self ..))) hn.2 (fun x hx hc=>?_);rcases qqr.1 hx with hx |rfl
  ·exact hd x hx (mem_cons_of_mem _ hc)
  ·exact hn.1 hc
theorem qke {l:List qad}(h:(l.map (·.vals)).Nodup):qgv (qd5 l):=qtn List.Pairwise.nil h (fun x hx=>by cases hx)
theorem qz6: ∀{l k:List qad},qgv l->qgv k->(∀x,x∈l↔x∈k)->l=k:=by
 intro l
 induction l with
 |nil=>
  intro k _ _ h;cases k with
  |nil=>rfl
  |cons y ys=>exact absurd ((h y).2 (mem_cons_self ..)) (by simp)
 |cons x xs ih=>
  intro k hl hk h;cases k with
  |nil=>exact absurd ((h x).1 (mem_cons_self ..)) (by simp)
  |cons y ys=>
   unfold qgv at hl hk;rw [pairwise_cons]at hl hk;have e:x=y:=by
    rcases mem_cons.1 ((h x).1 (mem_cons_self ..)) with e |hx
    ·exact e
    ·rcases mem_cons.1 ((h y).2 (mem_cons_self ..)) with e |hy
     ·exact e.symm
     ·have h1:=hk.1 x hx;have h2:=hl.1 y hy;rw [qz5 h1]at h2;cases h2
   subst e
   congr 1
   refine ih hl.2 hk.2 fun z=>?_;have hz:=h z;rw [mem_cons,mem_cons]at hz;constructor
   ·intro hm;rcases hz.1 (.inr hm) with rfl |h1
    ·have:=hl.1 z hm;rw [qi3]at this;cases this
    ·exact h1
   ·intro hm;rcases hz.2 (.inr hm) with rfl |h1
    ·have:=hk.1 z hm;rw [qi3]at this;cases this
    ·exact h1
theorem qz7 {l k:List qad}(hl:(l.map (·.vals)).Nodup)(hk:(k.map (·.vals)).Nodup)(h: ∀x,x∈l↔x∈k):qd5 l=qd5 k:=
 qz6 (qke hl) (qke hk) (fun x=>by rw [qjm,qjm,h])
def qak (r:RuleD):List ByteArray:=qa9 r.names
def qbz (r:RuleD)(b:Asg):qad:=⟨r.head.args.map (qcs b),(qak r).map fun x=>(b x).getD ⟨#[]⟩⟩
def qbm (body:List LitD)(i:Nat):Int:=(body.getD i default).kind
def qag (body:List LitD):List Nat:=(List.range body.length).filter fun i=>qbm body i==1
def qli (J:qa7)(body:List LitD)(b:Asg):Bool:=
 (List.range body.length).all fun i=>if qbm body i=3 then qy b (body.getD i default).left !=qy b (body.getD i default).right
  else if qbm body i=2 then !decide ((body.getD i default).atom.args.map (qcs b)∈J.neg i) else true
def qbd (J:qa7)(body:List LitD):List Asg:=(qbh J body (qag body) qb3).filter (qli J body)
def qcv (J:qa7)(r:RuleD):List qad:=qd5 ((qbd J r.body).map (qbz r))
def qxz (body:List LitD)(is:List Nat):Prop:= ∀i,i∈is↔i<body.length
def qio (body:List LitD):Prop:= ∀i,i<body.length->qbm body i=1∨qbm body i=2∨qbm body i=3
def q6y (r:RuleD):Prop:= ∀x,x∈r.names->x∈qw r.body (qag r.body)
theorem qfx:(fun x=> ∃v,qb3 x=some v)=fun _=>False:=funext fun x=>propext ⟨fun⟨v,h⟩=>(by cases h),False.elim⟩
theorem qk1 (body:List LitD): ∀(is:List Nat) (K:ByteArray->Prop),(∀i,i∈is->qbm body i=1)->qgn body is K:=by
 intro is
 induction is with
 |nil=>intro K _;trivial
 |cons i is ih=>
  intro K h;have h1:=h i (mem_cons_self ..);unfold qbm at h1;refine⟨fun h3=>?_,fun h2=>?_,ih _ (fun k hk=>h k (mem_cons_of_mem _ hk))⟩
  ·rw [h1]at h3;cases h3
  ·rw [h1]at h2;cases h2
theorem qc8 {body:List LitD}{i:Nat}(h:i∈qag body):i<body.length/\qbm body i=1:=by
 unfold qag at h;rw [mem_filter,mem_range]at h;exact⟨h.1,by simpa using h.2⟩
theorem qg8 {body:List LitD}{is:List Nat}{x:ByteArray}:x∈qw body is↔ ∃i,i∈is/\ ¬(qbm body i=3∨qbm body i=2)/\x∈qba (body.getD i default).atom.args:=by
 unfold qw qbm;rw [mem_flatMap];constructor
 ·rintro⟨i,hi,hx⟩;split at hx
  ·cases hx
  ·rename_i h;exact⟨i,hi,h,hx⟩
 ·rintro⟨i,hi,h,hx⟩;exact⟨i,hi,by rw [if_neg h];exact hx⟩
theorem qkr {body:List LitD}{is:List Nat}(ha:qxz body is)(hk:qio body)(x:ByteArray):x∈qw body is↔x∈qw body (qag body):=by
 rw [qg8,qg8];constructor
 ·rintro⟨i,hi,h,hx⟩;have hl:=(ha i).1 hi;refine⟨i,?_,h,hx⟩;unfold qag;rw [mem_filter,mem_range];rcases hk i hl with h1 |h1 |h1
  ·exact⟨hl,by simpa using h1⟩
  ·exact absurd (.inr h1) h
  ·exact absurd (.inl h1) h
 ·rintro⟨i,hi,h,hx⟩;exact⟨i,(ha i).2 (qc8 hi).1,h,hx⟩
theorem qto {J:qa7}{body:List LitD}{b:Asg}:qli J body b=true↔ ∀i,i<body.length->qbm body i=2∨qbm body i=3->qek J body b i:=by
 unfold qli;rw [all_eq_true];unfold qek qbm;constructor
 ·intro h i hi hk;have:=h i (mem_range.2 hi);split at this
  ·rename_i h3;rw [if_pos h3]
   simpa using this
  ·rename_i h3;rw [if_neg h3];split at this
   ·rename_i h2;rw [if_pos h2]
    simpa using this
   ·rename_i h2;rcases hk with hk |hk
    ·exact absurd hk h2
    ·exact absurd hk h3
 ·intro h i hi;have hi:=mem_range.1 hi;split
  ·rename_i h3;have:=h i hi (.inr h3);rw [if_pos h3]at this
   simpa using this
  ·rename_i h3;split
   ·rename_i h2;have:=h i hi (.inl h2);rw [if_neg h3,if_pos h2]at this
    simpa using this
   ·rfl
theorem qqs {J:qa7}{body:List LitD}{is:List Nat}(ha:qxz body is)(hk:qio body)(hw:qgn body is (fun _=>False))(b:Asg):b∈qbh J body is qb3↔b∈qbd J body:=by
 unfold qbd;rw [mem_filter,qk0 is qb3 b (by rw [qfx];exact hw),qk0 (qag body) qb3 b (by rw [qfx];exact qk1 _ _ _ fun i hi=>(qc8 hi).2),qto];constructor
 ·rintro⟨h1,h2,h3⟩;refine⟨⟨h1,fun x=>?_,fun i hi=>h3 i ((ha i).2 (qc8 hi).1)⟩,fun i hi _=>h3 i ((ha i).2 hi)⟩;rw [h2 x,qkr ha hk]
 ·rintro⟨⟨h1,h2,h3⟩,h4⟩;refine⟨h1,fun x=>?_,fun i hi=>?_⟩
  ·rw [h2 x,qkr ha hk]
  ·have hl:=(ha i).1 hi;rcases hk i hl with h |h |h
   ·refine h3 i ?_;unfold qag;rw [mem_filter,mem_range];exact⟨hl,by simpa using h⟩
   ·exact h4 i hl (.inl h)
   ·exact h4 i hl (.inr h)
theorem qe0 {J:qa7}{body:List LitD}{b:Asg}:b∈qbd J body↔(ExtA qb3 b/\qg3 qb3 b (qw body (qag body))/\ ∀i,i∈qag body->qek J body b i)/\qli J body b=true:=by
 unfold qbd;rw [mem_filter,qk0 (qag body) qb3 b (by rw [qfx];exact qk1 _ _ _ fun i hi=>(qc8 hi).2)]
theorem qlj {r:RuleD}{L:LitD}{t:TermD}(hL:L∈r.lits)(ht:t∈L.terms)(hv:t.var=true):t.text∈r.names:=by
 have go: ∀(ls:List LitD) (i:Nat),L∈ls->t.text∈(qcu ls i).map (·.2):=by
  intro ls
  induction ls with
  |nil=>intro i h;cases h
  |cons M ls ih=>
   intro i h;unfold qcu;rw [map_append,mem_append];rcases mem_cons.1 h with rfl |h
   ·refine .inl ?_;rw [map_map];unfold LitD.uses;rw [map_map];exact mem_map.2 ⟨t,mem_filter.2 ⟨ht,hv⟩,rfl⟩
   ·exact .inr (ih (i+1) h)
 exact go r.lits 0 hL
theorem qfy (l:List ByteArray)(x:ByteArray):x∈qa9 l↔x∈l:=by
 have go: ∀(l acc:List ByteArray),x∈l.foldl (fun acc x=>if x∈acc then acc else acc++ [x]) acc↔x∈acc∨x∈l:=by
  intro l
  induction l with
  |nil=>intro acc;simp
  |cons y l ih=>
   intro acc;rw [foldl_cons,ih,mem_cons];split
   ·rename_i hy;constructor
    ·rintro(h |h)
     ·exact .inl h
     ·exact .inr (.inr h)
    ·rintro(h |rfl |h)
     ·exact .inl h
     ·exact .inl hy
     ·exact .inr h
   ·rw [mem_append,mem_singleton,or_assoc]
 unfold qa9;rw [go];simp
theorem qtp {r:RuleD}{b c:Asg}{xs:List ByteArray}(hx: ∀x,x∈xs->x∈qak r)(hb:qg3 qb3 b xs)(hc:qg3 qb3 c xs)(h:(qbz r b).vals=(qbz r c).vals):b=c:=by
 refine funext fun x=>?_;have hn: ∀a:Asg,qg3 qb3 a xs->((∃v,a x=some v)↔x∈xs):=fun a ha=>by
  rw [ha x];constructor
  ·rintro(⟨v,h⟩ |h)
   ·cases h
   ·exact h
  ·exact .inr
 by_cases hm:x∈xs
 ·obtain⟨v,hv⟩:=(hn b hb).2 hm;obtain⟨u,hu⟩:=(hn c hc).2 hm;have:(b x).getD ⟨#[]⟩=(c x).getD ⟨#[]⟩:=by
   unfold qbz at h;exact map_inj_left.1 h x (hx x hm)
  rw [hv,hu]at this;rw [hv,hu];exact congrArg some this
 ·cases h1:b x with
  |some v=>exact absurd ((hn b hb).1 ⟨v,h1⟩) hm
  |none=>
   cases h2:c x with
   |some v=>exact absurd ((hn c hc).1 ⟨v,h2⟩) hm
   |none=>rfl
theorem qlk {r:RuleD}{l:List Asg}{xs:List ByteArray}(hx: ∀x,x∈xs->x∈qak r)(hl: ∀b,b∈l->qg3 qb3 b xs)(hn:l.Nodup):((l.map (qbz r)).map (·.vals)).Nodup:=by
 rw [map_map]
 induction l with
 |nil=>simp
 |cons b l ih=>
  rw [nodup_cons]at hn;rw [map_cons,nodup_cons];refine⟨fun hm=>?_,ih (fun c hc=>hl c (mem_cons_of_mem _ hc)) hn.2⟩;obtain⟨c,hc,he⟩:=mem_map.1 hm;have:=qtp hx (hl c (mem_cons_of_mem _ hc)) (hl b (mem_cons_self ..)) he;subst this;exact hn.1 hc
theorem qkf {r:RuleD}{x:ByteArray}(h:x∈qw r.body (qag r.body)):x∈qak r:=by
 obtain⟨i,hi,-,hx⟩:=qg8.1 h;obtain⟨hl,hk⟩:=qc8 hi;unfold qbm at hk;unfold qba at hx;obtain⟨t,ht,rfl⟩:=mem_map.1 hx;rw [mem_filter]at ht;unfold qak;rw [qfy];have hg:r.body.getD i default=r.body[i]:=by rw [getD_eq_getElem?_getD,getElem?_eq_getElem hl];rfl
 refine qlj (L:=r.body.getD i default) ?_ ?_ ht.2
 ·rw [hg];exact mem_cons_of_mem _ (getElem_mem hl)
 ·unfold LitD.terms;rw [if_pos (.inl hk)];exact ht.1
theorem qwu {J:qa7}{r:RuleD}{is:List Nat}(hJ: ∀i,(J.pos i).Nodup)(ha:qxz r.body is)(hk:qio r.body)(hw:qgn r.body is (fun _=>False)):
  qd5 ((qbh J r.body is qb3).map (qbz r))=qcv J r:=by
 have hd: ∀b,b∈qbd J r.body->qg3 qb3 b (qw r.body (qag r.body)):=fun b hb=>(qe0.1 hb).1.2.1;have hn1:(qbh J r.body is qb3).Nodup:=qkd hJ is qb3 (by rw [qfx];exact hw);have hn2:(qbd J r.body).Nodup:=List.Pairwise.filter _ (qkd hJ _ qb3 (by rw [qfx];exact qk1 _ _ _ fun i hi=>(qc8 hi).2));unfold qcv;refine qz7 (qlk (fun x hx=>qkf hx) (fun b hb=>hd b ((qqs ha hk hw b).1 hb)) hn1) (qlk (fun x hx=>qkf hx) hd hn2) fun m=>?_;rw [mem_map,mem_map];constructor
 ·rintro⟨b,hb,rfl⟩;exact⟨b,(qqs ha hk hw b).1 hb,rfl⟩
 ·rintro⟨b,hb,rfl⟩;exact⟨b,(qqs ha hk hw b).2 hb,rfl⟩
end Go.Ink
