/- Parts of the proof. -/
import Derived.Test.YtnponcjnahicnaaGreatDoorJnBToJnC
import Derived.Test.YtnponcjnahicnaaGreatDoorPnVToPnW
set_option linter.unusedSimpArgs false
set_option linter.unusedVariables false
set_option maxRecDepth 100000
set_option maxHeartbeats 1000000
open Go.Proofs.Tryz(prog)
open List(all_cons filter_sublist foldl_cons getElem?_cons_succ getElem?_cons_zero getElem?_set_ne getElem?_set_self getElem?_zipIdx getElem_idxOf idxOf_append length_cons length_singleton pairwise_cons zipIdx_append zipIdx_map_fst)
namespace Go.Ink
structure qy where
 pred:ByteArray
 tuple:List ByteArray
 deriving DecidableEq,Inhabited
def qo (c:List qy)(p:ByteArray)(n:Nat):List (List ByteArray):=(c.filter fun f=>decide (f.pred=p/\f.tuple.length=n)).map (·.tuple)
theorem qi5 (c d:List qy)(p:ByteArray)(n:Nat):qo (c++d) p n=qo c p n++qo d p n:=by
 unfold qo;rw [yS,zm]
theorem qc2 {c:List qy}{p:ByteArray}{n:Nat}{t:List ByteArray}:t∈qo c p n↔(⟨p,t⟩:qy)∈c/\t.length=n:=by
 unfold qo;rw [yK];constructor
 ·rintro⟨f,hf,rfl⟩;rw [yU]at hf;obtain⟨d,b⟩:=hf;obtain⟨b,e⟩:=yD b;obtain⟨g,h⟩:=f;simp only at b;subst b;exact⟨d,e⟩
 ·rintro⟨d,b⟩;exact⟨⟨p,t⟩,yU.2 ⟨d,zS ⟨rfl,b⟩⟩,rfl⟩
theorem qww {c:List qy}(h:c.Nodup)(p:ByteArray)(n:Nat):(qo c p n).Nodup:=by
 induction c with
 |nil=>simp [qo]
 |cons f c ih=>
  rw [xR]at h;have e:f::c= [f]++c:=rfl;rw [e,qi5,xV];refine⟨?_,ih h.2,fun a i b j k=>?_⟩
  ·unfold qo;rw [ye];split<;>simp
  ·subst k;obtain⟨d,-⟩:=qc2.1 i;obtain⟨g,-⟩:=qc2.1 j;rw [zl]at d;rw [←d]at h;exact h.1 g
theorem qky (c:List qy)(p:ByteArray)(n:Nat):(qo c p n).length<=c.length:=by
 unfold qo;rw [zL];exact yd _ _
theorem qsm (f:qy)(p:ByteArray)(n:Nat):qo [f] p n=if f.pred=p/\f.tuple.length=n then [f.tuple] else []:=by
 unfold qo;by_cases h:f.pred=p/\f.tuple.length=n
 ·rw [zI h,xU (by simpa using h)]
  rfl
 ·rw [zF h,xf (by simpa using h)]
  rfl
def qhr (ok:qy->Bool)(c:List qy)(f:qy):List qy:=if ok f=true/\f∉c then c++ [f] else c
def qfk (ok:qy->Bool)(l:List qy):List qy:=l.foldl (qhr ok) []
theorem q1x (b:qy->Bool)(c:List qy)(f:qy):(qhr b c f).length<=c.length+1:=by
 unfold qhr;split
 ·simp
 ·omega
theorem q3r {d:qy->Bool}{c:List qy}(h: ∀f,f∈c->d f=true)(f:qy): ∀g,g∈qhr d c f->d g=true:=by
 unfold qhr;split
 ·rename_i hf;intro g b;rcases zn.1 b with b |b
  ·exact h g b
  ·rw [zl]at b;rw [b];exact hf.1
 ·exact h
theorem qy5 (b:qy->Bool)(l:List qy): ∀c,(l.foldl (qhr b) c).length<=c.length+l.length:=by
 induction l with
 |nil=>intro c;simp
 |cons f l ih=>
  intro c;rw [foldl_cons,length_cons];have:=ih (qhr b c f);have:=q1x b c f;omega
def qjs (body:List LitD)(pos:Nat->List qy)(neg:List qy):qa6 where
 pos i:=qo (pos i) (body.getD i default).atom.pred (body.getD i default).atom.args.length
 neg i:=qo neg (body.getD i default).atom.pred (body.getD i default).atom.args.length
def qam (a:Asg):List TermD->Nat->List (Nat×ByteArray)
 | [],_=> []
 |t::ts,k=>match qaf a t with
  |some y=>(k,y)::qam a ts (k+1)
  |none=>qam a ts (k+1)
def qip (a:Asg)(ts:List TermD):List Int:=(qam a ts 0).map fun p=>(p.1:Int)
def qnt (a:Asg)(ts:List TermD):List ByteArray:=(qam a ts 0).map (·.2)
theorem qy6 (a:Asg)(b:List TermD): ∀(ts:List TermD) (k:Nat),qam a (ts++b) k=qam a ts k++qam a b (k+ts.length):=by
 intro ts
 induction ts with
 |nil=>intro k;rfl
 |cons t ts ih=>
  intro k;have e:qam a (t::ts++b) k=match qaf a t with
   |some y=>(k,y)::qam a (ts++b) (k+1)
   |none=>qam a (ts++b) (k+1):=rfl
  have c:qam a (t::ts) k=match qaf a t with
   |some y=>(k,y)::qam a ts (k+1)
   |none=>qam a ts (k+1):=rfl
  rw [e,c,ih,length_cons,show k+1+ts.length=k+(ts.length+1) from xz];split<;>simp
theorem qwx (a:Asg)(ts:List TermD){k:Nat}{t:TermD}(h:ts[k]?=some t):qam a (ts.take (k+1)) 0=qam a (ts.take k) 0++(match qaf a t with |some y=> [(k,y)] |none=> []):=by
 have b:=(zA.1 h).1;rw [zh,h,qy6,yB,xP xz,zD]
 rfl
theorem qma {a:Asg}: ∀{ts:List TermD} {k:Nat} {p:Nat×ByteArray},p∈qam a ts k->k<=p.1/\p.1<k+ts.length:=by
 intro ts
 induction ts with
 |nil=>intro k p h;cases h
 |cons t ts ih=>
  intro k p h;unfold qam at h;rw [length_cons];split at h
  ·rcases zt.1 h with rfl |h
   ·simp only;omega
   ·have:=ih h;omega
  ·have:=ih h;omega
theorem qwy {a:Asg}: ∀{ts:List TermD} {k:Nat},(qam a ts k).Pairwise fun p q=>p.1<q.1:=by
 intro ts
 induction ts with
 |nil=>intro k;exact List.Pairwise.nil
 |cons t ts ih=>
  intro k;unfold qam;split
  ·rw [pairwise_cons];refine⟨fun q b=>?_,ih⟩;have:=qma b;simp only;omega
  ·exact ih
theorem qmb (a:Asg): ∀(ts:List TermD) (k:Nat),(qam a ts k).length<=ts.length:=by
 intro ts
 induction ts with
 |nil=>intro k;simp [qam]
 |cons t ts ih=>
  intro k;unfold qam;have:=ih (k+1);split
  ·rw [length_cons,length_cons];omega
  ·rw [length_cons];omega
def qi6 (a:Asg):List TermD->List ByteArray->Bool
 |t::ts,x::xs=>(match qaf a t with |some y=>decide (y=x) |none=>true)&&qi6 a ts xs
 |_,_=>true
theorem qy7 {a:Asg}: ∀{ts:List TermD} {xs:List ByteArray} {k:Nat},ts.length=xs.length->qi6 a ts xs=(qam a ts k).all fun p=>decide (xs[p.1-k]?=some p.2):=by
 intro ts
 induction ts with
 |nil=>intro xs k h;rfl
 |cons t ts ih=>
  intro xs k h;cases xs with
  |nil=>cases h
  |cons x xs=>
   rw [length_cons,length_cons]at h;have e:((qam a ts (k+1)).all fun p=>decide (xs[p.1-(k+1)]?=some p.2))=(qam a ts (k+1)).all fun p=>decide ((x::xs)[p.1-k]?=some p.2):=by
    rw [yt,yL,yL];refine forall_congr' fun p=>forall_congr' fun d=>?_;have:=qma d;rw [show p.1-k=(p.1-(k+1))+1 from xz,getElem?_cons_succ]
   unfold qi6 qam;rw [ih (k:=k+1) xz,e];split
   ·rename_i y hy;rw [all_cons,xX,getElem?_cons_zero]
    congr 1
    by_cases b:y=x
    ·rw [b];simp
    ·rw [zM b,zM];intro c;cases c;exact b rfl
   ·rw [yT]
theorem q3s {ts:List TermD}: ∀{a b:Asg} {xs:List ByteArray},ExtA b a->qi6 b ts xs=false->qb6 a ts xs=none:=by
 induction ts with
 |nil=>intro a b xs _ h;unfold qi6 at h;cases h
 |cons t ts ih=>
  intro a b xs c h;cases xs with
  |nil=>rfl
  |cons x xs=>
   unfold qi6 at h;rw [Bool.and_eq_false_iff]at h;unfold qb6;split
   ·rename_i y hy;split
    ·rename_i he;subst he;rcases h with h |h
     ·exfalso;split at h
      ·rename_i z hz;have:=qjj c hz;rw [hy]at this;cases this;simp at h
      ·cases h
     ·exact ih c h
    ·rfl
   ·rename_i hy;obtain⟨-,d⟩:=qmn hy;rcases h with h |h
    ·exfalso;split at h
     ·rename_i z hz;have:=qjj c hz;rw [hy]at this;cases this
     ·cases h
    ·exact ih (c.trans (qtr d)) h
def q8 (l:List ByteArray)(s:ByteArray):List ByteArray:=if s∈l then l else l++ [s]
theorem qf6 {x:ByteArray}: ∀{ts l:List ByteArray},x∈ts.foldl q8 l↔x∈l∨x∈ts:=by
 intro ts
 induction ts with
 |nil=>intro l;simp
 |cons t ts ih=>
  intro l;rw [foldl_cons,ih,zt];unfold q8;split
  ·rename_i h;constructor
   ·rintro(h |h)
    ·exact .inl h
    ·exact .inr (.inr h)
   ·rintro(h |rfl |h)
    ·exact .inl h
    ·exact .inl ‹_›
    ·exact .inr h
  ·rw [zn,zl,or_assoc]
theorem qkz: ∀(ts l:List ByteArray),l.length<=(ts.foldl q8 l).length/\(ts.foldl q8 l).length<=l.length+ts.length:=by
 intro ts
 induction ts with
 |nil=>intro l;simp
 |cons t ts ih=>
  intro l;rw [foldl_cons,length_cons];have:=ih (q8 l t);have b:l.length<=(q8 l t).length/\(q8 l t).length<=l.length+1:=by
   unfold q8;split
   ·omega
   ·simp
  omega
end Go.Ink
namespace Go.Proofs
open Go.RowKit Go.Ink Go.Flt P16
theorem q1y {body:List LitD}{i:Nat}: ∀(is:List Nat) (K:ByteArray->Prop),qgd body is K->qgd body [i] (fun x=>K x∨x∈qaa body is)->qgd body (is++ [i]) K:=by
 intro is
 induction is with
 |nil=>
  intro K _ h;have e:(fun x=>K x∨x∈qaa body [])=K:=xy fun x=>propext ⟨fun h=>h.elim id (fun h=>by cases h),.inl⟩;rw [e]at h;exact h
 |cons k is ih=>
  intro K b h;obtain⟨c,d,f⟩:=b;refine⟨c,d,ih _ f ?_⟩;have e:(fun x=>(K x∨x∈qaa body [k])∨x∈qaa body is)=fun x=>K x∨x∈qaa body (k::is):=xy fun x=>propext (by
   have:qaa body (k::is)=qaa body [k]++qaa body is:=by unfold qaa;simp
   rw [this,zn,or_assoc])
  rw [e];exact h
theorem qi7 {r:RuleD}(h:qak r=true):qi4 r.body:=fun i hi=>by
 unfold qak at h;rw [zV,zV,yL]at h;have b:r.body.getD i default=r.body[i]:=by rw [zJ,zB hi];rfl
 have:=h.2 r.body[i] (xD hi);unfold qb1;rw [b];unfold qb3 at this;split at this
 ·rename_i h1;omega
 ·split at this
  ·rename_i h1;omega
  ·cases this
structure q5z (r:RuleD)(s:MkS):Prop where
 way:qgd r.body (s.steps.map fun x=>x.lit.toNat) (fun _=>False)
 known: ∀x,x∈s.K↔x∈qaa r.body (s.steps.map fun x=>x.lit.toNat)
 taken: ∀i,i<r.body.length->(s.taken.getD i true=true↔i∈s.steps.map fun x=>x.lit.toNat)
 low: ∀i,i∈(s.steps.map fun x=>x.lit.toNat)->i<r.body.length
theorem q49 {r:RuleD}{sizes:List qaj}{first:Int}(hF:qak r=true)(hu:qbo sizes=true)(hs:qds r=true)(hf:qa9 r first=false)(j:Nat)(hj:j<=r.body.length):q5z r (qbm r sizes first j):=by
 induction j with
 |zero=>
  refine⟨wE,fun x=>by simp [qbm,qaa],fun i hi=>?_,fun i hi=>by simp [qbm] at hi⟩;simp only [qbm,xi,yR,iff_false];rw [zJ,xT,zI hi];simp
 |succ j l=>
  have l:=l xz;obtain⟨k,R,y,p,q⟩:=qib (sizes:=sizes) hs hf (show j<r.body.length from xz) (qmz hu hs hf j xz) (fun h=>by subst h;rfl);have e:qbm r sizes first (j+1)=qhw r sizes (k:Int) (qbm r sizes first j):=by
   show qhw r sizes (qgq r sizes first j (qbm r sizes first j)) (qbm r sizes first j)=_;rw [R]
  rw [e];generalize qbm r sizes first j=s at l p q⊢
  have g:=qi7 hF k y;unfold qb1 at g;unfold qhw;simp only [Int.toNat_natCast];have f:(qa7 s.K (r.body.getD k default) (k:Int)).lit.toNat=k:=by unfold qa7;split<;>simp
  refine⟨?_,fun x=>?_,fun i hi=>?_,fun i hi=>?_⟩
  ·simp only [zm,yW,xi,f];refine q1y _ _ l.way ⟨fun v t u U=>?_,fun h2 t u U=>?_,wE⟩
   all_goals
    refine .inr ((l.known _).1 ?_);rcases q with c |c
    ·omega
    ·unfold qcj at c;rw [y8]at c;rcases c with c |c
     ·have:=yD c;omega
     ·have c:(qel (r.body.getD k default)).any (qb8 s.K)=false:=by simpa using c
      rw [xY]at c;unfold qel at c
      first
       |rw [zI v] at c
        have b:=c t (by rcases u with rfl |rfl<;>simp);unfold qb8 at b;rw [U]at b
        simpa using b
       |rw [zF xz] at c
        have b:=c t u;unfold qb8 at b;rw [U]at b
        simpa using b
  ·simp only [zm,yW,xi,f];have hp: ∀is:List Nat,qaa r.body (is++ [k])=qaa r.body is++qaa r.body [k]:=fun is=>by unfold qaa;rw [yF]
   rw [qqs,hp,zn,l.known,qcx];by_cases c:(r.body.getD k default).kind=1
   ·have d:(qa7 s.K (r.body.getD k default) (k:Int)).new=qbt s.K (r.body.getD k default).atom.args:=by unfold qa7;rw [zF xz]
    rw [zF xz,d,qk5,l.known];have X:x∈qir (r.body.getD k default).atom.args↔x∈qar (r.body.getD k default).atom.args:=qeu _ x;rw [X];constructor
    ·rintro(h |h)
     ·exact .inl h
     ·exact .inr h.1
    ·intro h;by_cases Y:x∈qaa r.body (s.steps.map fun x=>x.lit.toNat)
     ·exact .inl Y
     ·exact .inr ⟨h.resolve_left Y,Y⟩
   ·rw [zI xz];constructor
    ·rintro(h |h)
     ·exact .inl h
     ·exfalso;rcases g with v |v |v
      ·exact c v
      ·have d:(qa7 s.K (r.body.getD k default) (k:Int)).new=qbt s.K (r.body.getD k default).atom.args:=by unfold qa7;rw [zF xz]
       rw [d,qk5]at h;rcases q with b |b
       ·exact c b
       ·unfold qcj at b;rw [y8]at b;rcases b with b |b
        ·exact c (yD b)
        ·have b:(qel (r.body.getD k default)).any (qb8 s.K)=false:=by simpa using b
         rw [xY]at b;unfold qel at b;rw [zF xz]at b;obtain⟨t,u,rfl⟩:=yK.1 ((qeu _ x).1 h.1);rw [yU]at u;have z:=b t u.1;unfold qb8 at z;rw [u.2]at z;exact h.2 (by simpa using z)
      ·have d:(qa7 s.K (r.body.getD k default) (k:Int)).new= []:=by unfold qa7;rw [zI v]
       rw [d]at h;cases h
    ·rintro(h |h)
     ·exact .inl h
     ·cases h
  ·simp only [zm,yW,xi,f,zn,zl];rw [←l.taken i hi];by_cases m:i=k
   ·subst m;have hl:i<s.taken.length:=by
     by_cases h:i<s.taken.length
     ·exact h
     ·rw [zJ,xA xz]at p;cases p
    rw [zJ,getElem?_set_self hl];simp
   ·rw [zJ,getElem?_set_ne (fun e=>m e.symm),←zJ];simp [m]
  ·simp only [zm,yW,xi,f,zn,zl]at hi;rcases hi with hi |rfl
   ·exact l.low i hi
   ·exact y
def qf7 (r:RuleD)(sizes:List qaj)(first:Int):List Nat:=(qbm r sizes first r.body.length).steps.map fun x=>x.lit.toNat
theorem qiq {r:RuleD}{sizes:List qaj}{first:Int}(h:qdq r sizes (qa9 r first)=0):qwu r.body (qf7 r sizes first)/\qi4 r.body/\qgd r.body (qf7 r sizes first) (fun _=>False):=by
 have v:qak r=true/\qbo sizes=true/\qa9 r first=false/\qds r=true:=by
  unfold qdq at h;cases m:qak r<;>cases p:qbo sizes<;>cases q:qds r<;>cases t:qa9 r first<;>rw [m,p,q,t] at h<;>first |exact⟨rfl,rfl,rfl,rfl⟩ |(exfalso;revert h;decide)
 obtain⟨e,l,g,k⟩:=v;have d:=q49 (sizes:=sizes) e l k g r.body.length (zG _);have ho:=qmz (sizes:=sizes) (first:=first) l k g r.body.length (zG _);refine⟨fun i=>⟨d.low i,fun hi=>?_⟩,qi7 e,d.way⟩;refine(d.taken i hi).1 ?_;generalize qbm r sizes first r.body.length=s at ho
 have c:s.taken.filter id=s.taken:=filter_sublist.eq_of_length (by rw [ho.cnt,ho.len]);have u: ∀b,b∈s.taken->b=true:=fun b f=>by
  rw [←c,yU]at f;exact f.2
 have j:i<s.taken.length:=by rw [ho.len];exact hi
 rw [zJ,zB j];exact u _ (xD j)
end Go.Proofs
namespace Go.Proofs
open Go.RowKit Go.Ink
attribute [local go_sem] Oper.semAt_some
abbrev pV (b:Nat):Value:=.pointer (some ⟨b,0,none⟩)
abbrev qsn (i:Nat):Value:=.int .i64 (i:Int)
abbrev qou (w:World)(b:Nat)(m:List (ByteArray×Nat)):Prop:=MapIn prog 9 Value.string qsn w b m
theorem qnu: ∀w:World,(zeroValue 3).run prog w=.ok (.int .i64 0) w:=fun w=>wA
theorem qkd:WideMaps.KeyLaw prog 9:=Go.WideMaps.string_law Tryz.underlying9
theorem qke: ∀a b:ByteArray,Value.string a=Value.string b->a=b:=fun a b h=>by cases h;rfl
theorem qkf {s:ByteArray}(h:s.size<=1073741824): ∃l,keyOf prog 9 (.string s)=some l:=⟨_,Go.WideMaps.keyOf_string_mk Tryz.underlying9 (by simp only [maxLen];omega)⟩
theorem qi8 (xs:List ByteArray):xs.zipIdx.map (·.1)=xs:=by rw [zipIdx_map_fst]
theorem qnv {xs:List ByteArray}(c:xs.Nodup)(s:ByteArray):qct xs.zipIdx s=if s∈xs then some (xs.idxOf s) else none:=by
 by_cases h:s∈xs
 ·rw [zI h];have hi:xs.idxOf s<xs.length:=y9 h;have b:xs.zipIdx[xs.idxOf s]?=some (s,xs.idxOf s):=by
   rw [getElem?_zipIdx,zB hi,getElem_idxOf hi];simp
  exact qns (p:=(s,xs.idxOf s)) (by rw [qi8];exact c) b
 ·rw [zF h];exact qkq (by rw [qi8];exact h)
theorem qvm {xs:List ByteArray}{s:ByteArray}(h:s∉xs):setK xs.zipIdx s xs.length=(xs++ [s]).zipIdx:=by
 unfold setK;rw [qi8,zF h,zipIdx_append];simp
structure TabAt (w:World)(T MX:Nat)(vx:Value)(xs:List ByteArray):Prop where
 tab:w.heap[T]?=some (.cells #[vx,.map (some MX)] 201 (0,0))
 own:w.ownsRow 0 9 1 vx xs.length (xs.map .string)
 nums:qou w MX xs.zipIdx
theorem TabAt.keep {w w':World}{T MX:Nat}{c:Value}{xs:List ByteArray}{C:Nat->Prop}(h:TabAt w T MX c xs)(hK:Keep C w w')(d:C T)(e:C MX)(f: ∀b,c.ownBlock=some b->C b):TabAt w' T MX c xs:=
 ⟨hK.heap h.tab d,qf h.own hK f,h.nums.keep hK e⟩
theorem TabAt.nodup {w:World}{T MX:Nat}{c:Value}{xs:List ByteArray}(h:TabAt w T MX c xs):xs.Nodup:=by
 obtain⟨_,_,_,_,b,_⟩:=h.nums;rw [qi8]at b;exact b
theorem qev {w:World}{T MX:Nat}{d:Value}{xs:List ByteArray}(h:TabAt w T MX d xs):Calls prog 132 #[pV T] w fun e w'=>e=.returned (.bool true)/\w'=w:=by
 have b:=qb h.tab 1 _ rfl;have f:=qe h.tab;simp only [zD]at b;clear h;have c: ∀w',(binOp .neq 130 (.map (some MX)) (.map none)).run prog w'=.ok (.bool true) w':=fun w'=>run_neq_map_nil w' _ _ _ (some MX) Tryz.underlying130
 go_enter Tryz.func132,Tryz.ntmps132
 go_wp2;go_ret;exact⟨rfl,rfl⟩
theorem qwz {w:World}{T MX:Nat}{g:Value}{xs:List ByteArray}(h:TabAt w T MX g xs):Calls prog 228 #[pV T] w fun e w'=>e=.returned (.int .i64 (xs.length:Int))/\w'=w:=by
 have f:=qb h.tab 0 _ rfl;have i:=qe h.tab;simp only [zD]at f;obtain⟨a,c,rfl⟩:=qi h.own;refine hd1 ?_ h;clear h;intro d
 go_enter Tryz.func228,Tryz.ntmps228
 go_wp2_with fail;refine(qev d.o).mono ?_;rintro e j ⟨rfl,b⟩;have b:=b.symm;subst b;go_wp2_with fail;go_ret;exact⟨rfl,rfl⟩
theorem qul {w:World}{T MX:Nat}{j:Value}{xs:List ByteArray}(h:TabAt w T MX j xs)(s:ByteArray)(i:s.size<=1073741824):
  Calls prog 177 #[pV T,.string s] w fun e w'=>e=.returned (.tuple #[.int .i64 (if s∈xs then ((xs.idxOf s:Nat):Int) else 0),.bool (decide (s∈xs))])/\w'=w:=by
 have g:=qb h.tab 1 _ rfl;have l:=qe h.tab;simp only [zD]at g;have c:=qdn (P:=prog) Tryz.underlying130 qkd qke qnu h.nums s (qkf i) true;rw [qnv h.nodup s]at c;refine hd1 ?_ h;clear h;intro f;by_cases d:s∈xs
 ·rw [zI d]at c;simp only [yg]at c;rw [zI d,zS d];clear d
  go_enter Tryz.func177,Tryz.ntmps177
  go_wp2_with fail;refine(qev f.o).mono ?_;rintro e k ⟨rfl,b⟩;have b:=b.symm;subst b;go_wp2_with fail
  go_ret2
  exact⟨rfl,rfl⟩
 ·rw [zF d]at c;simp only [yg]at c;rw [zF d,zM d];clear d
  go_enter Tryz.func177,Tryz.ntmps177
  go_wp2_with fail;refine(qev f.o).mono ?_;rintro e k ⟨rfl,b⟩;have b:=b.symm;subst b;go_wp2_with fail
  go_ret2
  exact⟨rfl,rfl⟩
theorem qum {w:World}{T MX:Nat}{q:Value}{xs:List ByteArray}(h:TabAt w T MX q xs)(n:Nat)(s:ByteArray)(k:xs[n]?=some s)(y:xs.length<=1073741824):
  Calls prog 181 #[pV T,.int .i64 (n:Int)] w fun e w'=>e=.returned (.tuple #[.string s,.bool true])/\w'=w:=by
 have l:=qb h.tab 0 _ rfl;have x:=qe h.tab;simp only [zD]at l;have j:=qwz h;have p:=(zA.1 k).1;have b:=h.own;obtain⟨a,c,rfl⟩:=qi h.own;obtain⟨g,rfl⟩: ∃g,a=some ⟨g,0,none⟩:=by
  rcases b.2 with ⟨e1,e2⟩ |⟨g,cap,cur,e1,_⟩
  ·exfalso;have:=b.1;rw [e2] at this;simp at this;omega
  ·injection e1 with q1;exact⟨g,q1⟩
 have z:=qau b n (.string s) (by rw [zP,k];rfl);have i:=qcm b;have m:=i.2.2.1;have r: ¬((n:Int)<0):=xz
 have t: ¬((xs.length:Int)<=n):=xz
 have u:(n:Int)<xs.length:=xz
 have v:(0:Int)<=n:=xz
 clear k b h;refine hd1 ?_ j;clear j;intro f
 go_enter Tryz.func181,Tryz.ntmps181
 go_wp2_with fail;refine f.o.mono ?_;rintro e R ⟨rfl,d⟩;have d:=d.symm;subst d;go_wp2_with fail
 go_ret2
 exact⟨rfl,rfl⟩
theorem qgm:qb2 prog 60 9 1 16:=qcl (z:=.string ⟨#[]⟩) wA wA rfl wC wC
theorem qso {xs:List ByteArray}{s:ByteArray}(h:s∈xs)(t:ByteArray):(q8 xs t).idxOf s=xs.idxOf s:=by
 unfold q8;split
 ·rfl
 ·rw [idxOf_append,zI h]
theorem qsp {s:ByteArray}: ∀{ts xs:List ByteArray},s∈xs->(ts.foldl q8 xs).idxOf s=xs.idxOf s:=by
 intro ts
 induction ts with
 |nil=>intro xs _;rfl
 |cons t ts ih=>
  intro xs h;rw [foldl_cons,ih (by unfold q8;split;exact h;exact xd _ h),qso h]
def qr (xs:List ByteArray)(t:List ByteArray):List Int:=t.map fun s=>((xs.idxOf s:Nat):Int)
theorem qy8 {t ts xs:List ByteArray}(h: ∀s,s∈t->s∈xs):qr (ts.foldl q8 xs) t=qr xs t:=yz fun s b=>by rw [qsp (h s b)]
theorem qw0 {w:World}{T MX:Nat}{vx:Value}{xs:List ByteArray}(h:TabAt w T MX vx xs)(s:ByteArray)(hs:s.size<=1073741824)(hl:xs.length<=1073741824):
  Calls prog 133 #[pV T,.string s] w fun e w'=> ∃vx',e=.returned (.tuple #[.int .i64 (((q8 xs s).idxOf s:Nat):Int),.int .i64 0])/\TabAt w' T MX vx' (q8 xs s)/\
   Keep (fun b=>b≠T/\b≠MX/\vx.ownBlock≠some b) w w'/\(∀b,vx'.ownBlock=some b->vx.ownBlock=some b∨w.heap.size<=b):=by
 have c0:=qb h.tab 0 _ rfl;have c1:=qb h.tab 1 _ rfl;have hB:=qe h.tab;simp only [zD]at c0 c1;have m:=qdn (P:=prog) Tryz.underlying130 qkd qke qnu h.nums s (qkf hs) true;rw [qnv h.nodup s]at m;by_cases z:s∈xs
 ·rw [zI z]at m;simp only [yg]at m;have hx:q8 xs s=xs:=zI z;rw [hx];clear z hx c0;refine hd1 ?_ h;clear h;intro Xh
  go_enter Tryz.func133,Tryz.ntmps133
  go_wp2_with fail;refine(qev Xh.o).mono ?_;rintro e w9 ⟨rfl,j⟩;have j:=j.symm;subst j;go_wp2_with fail
  go_ret2
  exact⟨_,rfl,Xh.o,Keep.refl _ _,fun b d=>.inl d⟩
 ·rw [zF z]at m;simp only [yg]at m;have hx:q8 xs s=xs++ [s]:=zF z;have ag:(xs++ [s]).idxOf s=xs.length:=by rw [idxOf_append,zF z];simp
  rw [hx,ag];obtain⟨W5,aq,r,x,ar⟩:=qh3 (P:=prog) Tryz.underlying130 qkd qke h.nums s (qkf hs) xs.length;rw [qvm z]at r;unfold qsn at aq;have X:T≠MX:=fun e=>by
   obtain⟨es,c,k,_⟩:=h.nums;rw [←e,h.tab]at k;cases k
  have Y: ∀b,vx.ownBlock=some b->b≠T:=fun b d e=>by
   rcases h.own.2 with ⟨e1,_⟩ |⟨g,cap,cur,e1,_,e3,_⟩
   ·rw [e1]at d;cases d
   ·rw [e1]at d;cases d;subst e;rw [h.tab]at e3;injection e3 with e3
    injection e3 with _ e3
    exact absurd e3 wC
  have t: ∀b,vx.ownBlock=some b->b≠MX:=fun b d e=>by
   obtain⟨es,c,k,_⟩:=h.nums;rcases h.own.2 with ⟨e1,_⟩ |⟨g,cap,cur,e1,_,e3,_⟩
   ·rw [e1]at d;cases d
   ·rw [e1]at d;cases d;subst e;rw [k]at e3;cases e3
  have R:=qf h.own x t;have f:=x.heap h.tab X;obtain⟨v',W6,hr,ai,k6,g,cap,hv,q,ad⟩:=qdd (P:=prog) qgm 60 R [.string s] rfl (by simp [Value.oneCell']) xz (ya _);obtain⟨a,c,rfl⟩:=qi h.own;subst hv;have i:=k6.heap f (fun e=>Y T (by rw [←e]) rfl);have ae:g≠T:=fun e=>by
   rcases q with k |k
   ·exact Y g k e
   ·have:=qe f;omega
  have ao:g≠MX:=fun e=>by
   rcases q with k |k
   ·exact t g k e
   ·have:=r.lt;omega
  have ah:=r.keep k6 (fun e=>t MX (by rw [←e]) rfl);have d0:=qb f 0 _ rfl;have d6:=qb i 0 _ rfl;have f6:=qg i 0;have aC:=qe f;have aD:=qe i;simp only [zD]at d0 d6;have y:TabAt (W6.setCell ⟨T,0,none⟩ (.slice (some ⟨g,0,none⟩) (xs.length+1) cap)) T MX (.slice (some ⟨g,0,none⟩) (xs.length+1) cap) (xs++ [s]):=by
   have hk:Keep (fun b=>b≠T) W6 (W6.setCell ⟨T,0,none⟩ (.slice (some ⟨g,0,none⟩) (xs.length+1) cap)):=kSc;refine⟨?_,?_,ah.keep hk (fun e=>X e.symm)⟩
   ·exact qz 0 _ i
   ·rw [zR,length_singleton,zm];exact qf ai hk (fun b d=>by simp only [Value.ownBlock] at d;cases d;exact ae)
  have l:Keep (fun b=>b≠T/\b≠MX/\(Value.slice a xs.length c).ownBlock≠some b) w (W6.setCell ⟨T,0,none⟩ (.slice (some ⟨g,0,none⟩) (xs.length+1) cap)):=by
   refine((x.mono fun b _ h=>h.2.1).trans (k6.mono fun b _ h=>fun e=>h.2.2 e.symm)).trans (Keep.setCell _ _ _ (fun h=>h.1 rfl))
  have af: ∀b,(Value.slice (some ⟨g,0,none⟩) (xs.length+1) cap).ownBlock=some b->(Value.slice a xs.length c).ownBlock=some b∨w.heap.size<=b:=fun b d=>by
   simp only [Value.ownBlock]at d;cases d;rcases q with k |k
   ·exact .inl k
   ·exact .inr xz
  rw [ar]at hr;clear z hx ag r x X Y t R f ai k6 q ae ao ah i;refine hd6 ?_ h y l af hr ad;clear h y l af hr ad;intro Xh U p ab an au
  go_enter Tryz.func133,Tryz.ntmps133
  go_wp2_with fail;refine(qev Xh.o).mono ?_;rintro e w9 ⟨rfl,j⟩;have j:=j.symm;subst j;go_wp2_with (at_builtin;refine qcd (v:=.slice a xs.length c) (u:=.slice (some ⟨w.heap.size,0,none⟩) 1 1) (v':=.slice (some ⟨g,0,none⟩) (xs.length+1) cap) (w':=W6) rfl (.tmp 38) (.tmp 40) 60 rfl rfl rfl an.o ?_)
  go_ret2
  exact⟨_,rfl,U.o,p.o,ab.o⟩
end Go.Proofs
