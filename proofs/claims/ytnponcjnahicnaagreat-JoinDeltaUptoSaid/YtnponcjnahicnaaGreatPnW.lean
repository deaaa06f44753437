/- Parts of the proof. -/
import Derived.Test.YtnponcjnahicnaaGreatPnQToPnV
import Derived.Test.YtnponcjnahicnaaGreatFltBToPnO
set_option linter.unusedSimpArgs false
set_option linter.unusedVariables false
open List(filter_replicate foldl_cons getD_cons_succ getElem?_set_ne length_cons length_singleton)
namespace Go.Proofs.P16
open Go.RowKit Go.Ink Go.Flt
structure MkS where
 K:List ByteArray
 taken:List Bool
 rows:Nat
 steps:List qds
def qbs (K:List ByteArray)(rows:Nat)(sizes:List qap)(ls:List LitD)(tk:List Bool):Nat->Int×Nat×Bool
 |0=>(-1,0,false)
 |i+1=>
  let p:=qbs K rows sizes ls tk i
  if p.2.2 then p
  else if tk.getD i true then p
  else if (ls.getD i default).kind≠1 then (if qc7 K (ls.getD i default) then ((i:Int),p.2.1,true) else p)
  else if p.1<0∨qdf rows (ls.getD i default) (qbo K (ls.getD i default) i).bound sizes<p.2.1 then ((i:Int),qdf rows (ls.getD i default) (qbo K (ls.getD i default) i).bound sizes,false)
  else p
def q6o (r:RuleD)(sizes:List qap)(s:MkS):Int:=(qbs s.K s.rows sizes r.body s.taken r.body.length).1
def qik (r:RuleD)(sizes:List qap)(n:Int)(s:MkS):MkS:=
 let L:=r.body.getD n.toNat default
 let x:=qbo s.K L n
 ⟨qdi s.K x.new,s.taken.set n.toNat true,qdf s.rows L x.bound sizes,s.steps++ [x]⟩
def qhf (r:RuleD)(sizes:List qap)(first:Int)(j:Nat)(s:MkS):Int:=if 0<j∨first<0 then q6o r sizes s else first
def qb3 (r:RuleD)(sizes:List qap)(first:Int):Nat->MkS
 |0=>⟨[],List.replicate r.body.length false,4607182418800017408,[]⟩
 |j+1=>qik r sizes (qhf r sizes first j (qb3 r sizes first j)) (qb3 r sizes first j)
structure qtq where
 rule:RuleD
 steps:List qds
def qnu:qtq:=⟨⟨⟨⟨#[]⟩,[]⟩,[]⟩,[]⟩
def qa3 (r:RuleD)(first:Int):Bool:=decide (first< -1) ||decide ((r.body.length:Int)<=first) ||(decide (0<=first)&&decide ((r.body.getD first.toNat default).kind≠1))
def qjr (r:RuleD)(sizes:List qap)(first:Int):qtq×Int:=
 if qeh r sizes (qa3 r first)≠0 then (qnu,qeh r sizes (qa3 r first)) else (⟨r,(qb3 r sizes first r.body.length).steps⟩,0)
theorem q2z {K:List ByteArray}{rows:Nat}{sizes:List qap}{ls:List LitD}{tk:List Bool}{i:Nat}(h:(qbs K rows sizes ls tk i).2.2=true): ∀j,i<=j->qbs K rows sizes ls tk j=qbs K rows sizes ls tk i:=by
 intro j c
 induction j with
 |zero=>rw [show i=0 from wC]
 |succ j b=>
  rcases y7 j i with hl |hg
  ·rw [show i=j+1 from wC]
  ·have b:=b hg;rw [show qbs K rows sizes ls tk (j+1)=_ from rfl];simp only [qbs,b,h,yj]
theorem qz4 {K:List ByteArray}{rows:Nat}(b:rows<=9094988921128908188){sizes:List qap}(c:qb6 sizes=true){ls:List LitD}{tk:List Bool}(i:Nat):(qbs K rows sizes ls tk i).2.1<=9094988921128908188:=by
 induction i with
 |zero=>simp [qbs]
 |succ i ih=>
  simp only [qbs];split
  ·exact ih
  ·split
   ·exact ih
   ·split
    ·split
     ·exact ih
     ·exact ih
    ·split
     ·exact qm5 b _ _ c
     ·exact ih
theorem q20 {K:List ByteArray}{rows:Nat}{sizes:List qap}{ls:List LitD}{tk:List Bool}(i:Nat):(qbs K rows sizes ls tk i).1= -1∨ ∃k:Nat,(qbs K rows sizes ls tk i).1=(k:Int)/\k<i/\tk.getD k true=false/\((ls.getD k default).kind=1∨qc7 K (ls.getD k default)=true):=by
 induction i with
 |zero=>exact .inl rfl
 |succ i ih=>
  have b:(qbs K rows sizes ls tk i).1= -1∨ ∃k:Nat,(qbs K rows sizes ls tk i).1=(k:Int)/\k<i+1/\tk.getD k true=false/\((ls.getD k default).kind=1∨qc7 K (ls.getD k default)=true):=by
   rcases ih with h |⟨k,h1,h2,h3⟩
   ·exact .inl h
   ·exact .inr ⟨k,h1,wC,h3⟩
  simp only [qbs];split
  ·exact b
  ·split
   ·exact b
   ·rename_i ht;rw [xw]at ht;split
    ·split
     ·rename_i hr;exact .inr ⟨i,rfl,wC,ht,.inr hr⟩
     ·exact b
    ·rename_i hk;split
     ·exact .inr ⟨i,rfl,wC,ht,.inl wC⟩
     ·exact b
theorem q21 {K:List ByteArray}{rows:Nat}{sizes:List qap}{ls:List LitD}{tk:List Bool}(i:Nat)(h:(qbs K rows sizes ls tk i).1= -1): ∀k,k<i->tk.getD k true=false->(ls.getD k default).kind≠1/\qc7 K (ls.getD k default)=false:=by
 induction i with
 |zero=>intro k g;omega
 |succ i ih=>
  simp only [qbs]at h;intro k g e;by_cases hd:(qbs K rows sizes ls tk i).2.2=true
  ·rw [zI hd]at h;exfalso;have: ∀j,(qbs K rows sizes ls tk j).2.2=true->(qbs K rows sizes ls tk j).1≠ -1:=by
    intro j
    induction j with
    |zero=>intro h;simp [qbs] at h
    |succ j ihj=>
     simp only [qbs];split
     ·exact ihj
     ·rename_i hn;split
      ·intro h;exact absurd h hn
      ·split
       ·split
        ·intro _;simp only;omega
        ·intro h;exact absurd h hn
       ·split
        ·intro h;simp at h
        ·intro h;exact absurd h hn
   exact this i hd h
  ·rw [zF hd]at h;rcases y7 k i with hl |hg
   ·refine ih ?_ k hl e
    revert h
    split
    ·exact id
    ·split
     ·split
      ·simp only;omega
      ·exact id
     ·split
      ·simp only;omega
      ·exact id
   ·obtain rfl:k=i:=by omega
    rw [zF (by rw [e];simp)]at h;by_cases b:(ls.getD k default).kind≠1
    ·rw [zI b]at h;refine⟨b,?_⟩;by_cases d:qc7 K (ls.getD k default)=true
     ·rw [zI d]at h;simp only at h;omega
     ·simpa using d
    ·rw [zF b]at h;by_cases c:(qbs K rows sizes ls tk k).1<0∨qdf rows (ls.getD k default) (qbo K (ls.getD k default) k).bound sizes<(qbs K rows sizes ls tk k).2.1
     ·rw [zI c]at h;simp only at h;omega
     ·rw [zF c]at h;exfalso;exact c (.inl wC)
structure q8x (r:RuleD)(j:Nat)(s:MkS):Prop where
 len:s.taken.length=r.body.length
 cnt:(s.taken.filter id).length=j
 stp:s.steps.length=j
 row:s.rows<=9094988921128908188
 bnd: ∀k,k<r.body.length->s.taken.getD k true=true->(r.body.getD k default).kind=1-> ∀x,x∈qjq (r.body.getD k default).atom.args->x∈s.K
theorem qxc {K c:List ByteArray}{L:LitD}(h: ∀x,x∈K->x∈c)(b:qc7 K L=true):qc7 c L=true:=by
 unfold qc7 at b⊢;rw [ya]at b⊢;rcases b with h1 |h2
 ·exact .inl h1
 ·right;rw [←qz1,yM]at h2⊢
  intro x d;have:=h2 x d;simp only [zT]at this⊢;exact h x this
theorem qst {K b:List ByteArray}{x:ByteArray}:x∈qdi K b↔x∈K∨x∈b:=by
 have h: ∀(b K:List ByteArray),x∈qdi K b↔x∈K∨x∈b:=by
  intro b
  induction b with
  |nil=>intro K;simp [qdi]
  |cons y r ih=>
   intro K;unfold qdi;rw [foldl_cons];have:=ih (if y∈K then K else K++ [y]);unfold qdi at this;rw [this];by_cases c:y∈K
   ·rw [zI c,zw];constructor
    ·rintro(h |h)
     ·exact .inl h
     ·exact .inr (.inr h)
    ·rintro(h |rfl |h)
     ·exact .inl h
     ·exact .inl c
     ·exact .inr h
   ·rw [zF c,zr,zm,zw,or_assoc]
 exact h b K
theorem q22 {l:List Bool}{k:Nat}(h:l.getD k true=false):((l.set k true).filter id).length=(l.filter id).length+1:=by
 induction l generalizing k with
 |nil=>simp at h
 |cons b r ih=>
  cases k with
  |zero=>
   simp at h;subst h;simp
  |succ k=>
   simp only [getD_cons_succ]at h;have:=ih h;cases b<;>simp [this]
theorem qxd {l:List Bool}(h:(l.filter id).length<l.length): ∃k,k<l.length/\l.getD k true=false:=by
 induction l with
 |nil=>simp at h
 |cons b r ih=>
  cases b with
  |false=>exact⟨0,wE,rfl⟩
  |true=>
   obtain⟨k,d,c⟩:=ih (by rw [yg,zI (show id true=true from rfl),length_cons,length_cons] at h;omega);exact⟨k+1,by simp;omega,by simpa using c⟩
theorem qi6 {r:RuleD}{sizes:List qap}{first:Int}(q:qej r=true)(m:qa3 r first=false){j:Nat}{s:MkS}(z:j<r.body.length)(h:q8x r j s)(R:j=0->s.taken=List.replicate r.body.length false):
  ∃k:Nat,qhf r sizes first j s=(k:Int)/\k<r.body.length/\s.taken.getD k true=false/\((r.body.getD k default).kind=1∨qc7 s.K (r.body.getD k default)=true):=by
 unfold qhf;by_cases v:0<j∨first<0
 ·rw [zI v];unfold q6o;rcases q20 (K:=s.K) (rows:=s.rows) (sizes:=sizes) (ls:=r.body) (tk:=s.taken) r.body.length with hn |⟨k,h1,h2,g,h4⟩
  ·exfalso;have d:=q21 _ hn;obtain⟨k,e,p⟩:=qxd (l:=s.taken) (by rw [h.cnt,h.len];exact z);rw [h.len]at e;have t:=d k e p;have hK: ∀x,x∈qby r.body->x∈s.K:=by
    intro x b;rw [←q2x]at b;have: ∀i,i<=r.body.length->x∈qij (r.body.take i)->x∈s.K:=by
     intro i
     induction i with
     |zero=>intro _ b;simp [qij] at b
     |succ i ih=>
      intro hi b;have y:=zB (show i<r.body.length from wC);rw [qo2 r.body y]at b;have c:r.body.getD i default=r.body[i]'(by omega):=by rw [zJ,y];rfl
      split at b
      ·rename_i hk1';rcases zr.1 b with b |b
       ·exact ih wC b
       ·by_cases u:s.taken.getD i true=true
        ·exact h.bnd i wC u (by rw [c];exact hk1') x (by rw [c];exact b)
        ·exact absurd (by rw [c];exact hk1') (d i wC (by simpa using u)).1
      ·exact ih wC b
    exact this r.body.length (zG _) (by rwa [zi])
   unfold qej at q;rw [zV,yM]at q;have c:r.body.getD k default=r.body[k]:=by rw [zJ,zB e];rfl
   have:=qxc hK (q.2 (r.body.getD k default) (by rw [c];exact xG _));rw [t.2]at this;cases this
  ·exact⟨k,h1,h2,g,h4⟩
 ·rw [zF v];unfold qa3 at m;rw [xH,xH,yR,yR]at m;have g:=m.2;rw [zS (show 0<=first from wC),yW,yR,Classical.not_not]at g;refine⟨first.toNat,wC,wC,?_,.inl g⟩;rw [R wC,zJ,xW,zI wC]
  rfl
theorem qoi {r:RuleD}{sizes:List qap}{first:Int}(z:qb6 sizes=true)(R:qej r=true)(t:qa3 r first=false)(j:Nat)(U:j<=r.body.length):q8x r j (qb3 r sizes first j):=by
 induction j with
 |zero=>
  refine⟨by simp [qb3],by simp [qb3,filter_replicate],rfl,by simp only [qb3];decide,?_⟩;intro k s c;simp only [qb3]at c;rw [zJ,xW,zI s]at c;cases c
 |succ j b=>
  have b:=b wC;obtain⟨k,m,v,p,y⟩:=qi6 (sizes:=sizes) R t (show j<r.body.length from wC) b (fun h=>by subst h;rfl);have e:qb3 r sizes first (j+1)=qik r sizes (k:Int) (qb3 r sizes first j):=by
   show qik r sizes (qhf r sizes first j (qb3 r sizes first j)) (qb3 r sizes first j)=_;rw [m]
  rw [e];unfold qik;simp only [Int.toNat_natCast];refine⟨by simp only [xr];exact b.len,?_,?_,qm5 b.row _ _ z,?_⟩
  ·rw [q22 p,b.cnt]
  ·simp only [zR,length_singleton];rw [b.stp]
  ·intro i hi c u x q;rw [qst];by_cases l:i=k
   ·subst l;have d:(qbo (qb3 r sizes first j).K (r.body.getD i default) (i:Int)).new=qcf (qb3 r sizes first j).K (r.body.getD i default).atom.args:=by unfold qbo;rw [zF wC]
    rw [d,qma];by_cases g:x∈(qb3 r sizes first j).K
    ·exact .inl g
    ·exact .inr ⟨q,g⟩
   ·left;refine b.bnd i hi ?_ u x q
    rwa [zJ,getElem?_set_ne (fun e=>l e.symm),←zJ] at c
end Go.Proofs.P16
