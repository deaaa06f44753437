/- Parts of the proof. -/
import Derived.Test.YtnponcjnahicnaaGreatDoorPnNToPnV
import Derived.Deep.DeepCutAuto
set_option linter.unusedSimpArgs false
set_option linter.unusedVariables false
set_option maxRecDepth 100000
set_option maxHeartbeats 4000000
open Go.Proofs.Tryz(prog)
open List(append_toArray cons_append filter_replicate foldl_cons getD_cons_succ getD_cons_zero getElem?_set_ne length_cons length_nil length_singleton map_set nil_append push_toArray set_cons_succ set_cons_zero size_toArray)
namespace Go.Proofs.P16
open Go.RowKit Go.Ink Go.Flt
structure MkS where
 K:List ByteArray
 taken:List Bool
 rows:Nat
 steps:List qfb
def qbp (K:List ByteArray)(rows:Nat)(sizes:List qas)(ls:List LitD)(tk:List Bool):Nat->Int×Nat×Bool
 |0=>(-1,0,false)
 |i+1=>
  let p:=qbp K rows sizes ls tk i
  if p.2.2 then p
  else if tk.getD i true then p
  else if (ls.getD i default).kind≠1 then (if qc2 K (ls.getD i default) then ((i:Int),p.2.1,true) else p)
  else if p.1<0∨qdc rows (ls.getD i default) (qbh K (ls.getD i default) i).bound sizes<p.2.1 then ((i:Int),qdc rows (ls.getD i default) (qbh K (ls.getD i default) i).bound sizes,false)
  else p
def q7c (r:RuleD)(sizes:List qas)(s:MkS):Int:=(qbp s.K s.rows sizes r.body s.taken r.body.length).1
def qii (r:RuleD)(sizes:List qas)(n:Int)(s:MkS):MkS:=
 let L:=r.body.getD n.toNat default
 let x:=qbh s.K L n
 ⟨qdb s.K x.new,s.taken.set n.toNat true,qdc s.rows L x.bound sizes,s.steps++ [x]⟩
def qhg (r:RuleD)(sizes:List qas)(first:Int)(j:Nat)(s:MkS):Int:=if 0<j∨first<0 then q7c r sizes s else first
def qbz (r:RuleD)(sizes:List qas)(first:Int):Nat->MkS
 |0=>⟨[],List.replicate r.body.length false,4607182418800017408,[]⟩
 |j+1=>qii r sizes (qhg r sizes first j (qbz r sizes first j)) (qbz r sizes first j)
structure qts where
 rule:RuleD
 steps:List qfb
def qnt:qts:=⟨⟨⟨⟨#[]⟩,[]⟩,[]⟩,[]⟩
def qbk (r:RuleD)(first:Int):Bool:=decide (first< -1) ||decide ((r.body.length:Int)<=first) ||(decide (0<=first)&&decide ((r.body.getD first.toNat default).kind≠1))
def qjp (r:RuleD)(sizes:List qas)(first:Int):qts×Int:=
 if qd9 r sizes (qbk r first)≠0 then (qnt,qd9 r sizes (qbk r first)) else (⟨r,(qbz r sizes first r.body.length).steps⟩,0)
theorem q3h {K:List ByteArray}{rows:Nat}{sizes:List qas}{ls:List LitD}{tk:List Bool}{i:Nat}(h:(qbp K rows sizes ls tk i).2.2=true): ∀j,i<=j->qbp K rows sizes ls tk j=qbp K rows sizes ls tk i:=by
 intro j c
 induction j with
 |zero=>rw [show i=0 from wA]
 |succ j b=>
  rcases yY j i with hl |hg
  ·rw [show i=j+1 from wA]
  ·have b:=b hg;rw [show qbp K rows sizes ls tk (j+1)=_ from rfl];simp only [qbp,b,h,yg]
theorem q0k {K:List ByteArray}{rows:Nat}(b:rows<=9094988921128908188){sizes:List qas}(c:qb0 sizes=true){ls:List LitD}{tk:List Bool}(i:Nat):(qbp K rows sizes ls tk i).2.1<=9094988921128908188:=by
 induction i with
 |zero=>simp [qbp]
 |succ i ih=>
  simp only [qbp];split
  ·exact ih
  ·split
   ·exact ih
   ·split
    ·split
     ·exact ih
     ·exact ih
    ·split
     ·exact qns b _ _ c
     ·exact ih
theorem q3i {K:List ByteArray}{rows:Nat}{sizes:List qas}{ls:List LitD}{tk:List Bool}(i:Nat):(qbp K rows sizes ls tk i).1= -1∨ ∃k:Nat,(qbp K rows sizes ls tk i).1=(k:Int)/\k<i/\tk.getD k true=false/\((ls.getD k default).kind=1∨qc2 K (ls.getD k default)=true):=by
 induction i with
 |zero=>exact .inl rfl
 |succ i ih=>
  have b:(qbp K rows sizes ls tk i).1= -1∨ ∃k:Nat,(qbp K rows sizes ls tk i).1=(k:Int)/\k<i+1/\tk.getD k true=false/\((ls.getD k default).kind=1∨qc2 K (ls.getD k default)=true):=by
   rcases ih with h |⟨k,h1,h2,h3⟩
   ·exact .inl h
   ·exact .inr ⟨k,h1,wA,h3⟩
  simp only [qbp];split
  ·exact b
  ·split
   ·exact b
   ·rename_i ht;rw [xt]at ht;split
    ·split
     ·rename_i hr;exact .inr ⟨i,rfl,wA,ht,.inr hr⟩
     ·exact b
    ·rename_i hk;split
     ·exact .inr ⟨i,rfl,wA,ht,.inl wA⟩
     ·exact b
theorem q3j {K:List ByteArray}{rows:Nat}{sizes:List qas}{ls:List LitD}{tk:List Bool}(i:Nat)(h:(qbp K rows sizes ls tk i).1= -1): ∀k,k<i->tk.getD k true=false->(ls.getD k default).kind≠1/\qc2 K (ls.getD k default)=false:=by
 induction i with
 |zero=>intro k g;omega
 |succ i ih=>
  simp only [qbp]at h;intro k g e;by_cases hd:(qbp K rows sizes ls tk i).2.2=true
  ·rw [zI hd]at h;exfalso;have: ∀j,(qbp K rows sizes ls tk j).2.2=true->(qbp K rows sizes ls tk j).1≠ -1:=by
    intro j
    induction j with
    |zero=>intro h;simp [qbp] at h
    |succ j ihj=>
     simp only [qbp];split
     ·exact ihj
     ·rename_i hn;split
      ·intro h;exact absurd h hn
      ·split
       ·split
        ·intro _;simp only;omega
        ·intro h;exact absurd h hn
       ·split
        ·intro h;simp at h
        ·intro h;exact absurd h hn
   exact this i hd h
  ·rw [zF hd]at h;rcases yY k i with hl |hg
   ·refine ih ?_ k hl e
    revert h
    split
    ·exact id
    ·split
     ·split
      ·simp only;omega
      ·exact id
     ·split
      ·simp only;omega
      ·exact id
   ·obtain rfl:k=i:=by omega
    rw [zF (by rw [e];simp)]at h;by_cases b:(ls.getD k default).kind≠1
    ·rw [zI b]at h;refine⟨b,?_⟩;by_cases d:qc2 K (ls.getD k default)=true
     ·rw [zI d]at h;simp only at h;omega
     ·simpa using d
    ·rw [zF b]at h;by_cases c:(qbp K rows sizes ls tk k).1<0∨qdc rows (ls.getD k default) (qbh K (ls.getD k default) k).bound sizes<(qbp K rows sizes ls tk k).2.1
     ·rw [zI c]at h;simp only at h;omega
     ·rw [zF c]at h;exfalso;exact c (.inl wA)
structure q9p (r:RuleD)(j:Nat)(s:MkS):Prop where
 len:s.taken.length=r.body.length
 cnt:(s.taken.filter id).length=j
 stp:s.steps.length=j
 row:s.rows<=9094988921128908188
 bnd: ∀k,k<r.body.length->s.taken.getD k true=true->(r.body.getD k default).kind=1-> ∀x,x∈qjo (r.body.getD k default).atom.args->x∈s.K
theorem qw9 {K c:List ByteArray}{L:LitD}(h: ∀x,x∈K->x∈c)(b:qc2 K L=true):qc2 c L=true:=by
 unfold qc2 at b⊢;rw [y8]at b⊢;rcases b with h1 |h2
 ·exact .inl h1
 ·right;rw [←q0f,yM]at h2⊢
  intro x d;have:=h2 x d;simp only [zT]at this⊢;exact h x this
theorem qsq {K new:List ByteArray}{x:ByteArray}:x∈qdb K new↔x∈K∨x∈new:=by
 have h: ∀(new K:List ByteArray),x∈qdb K new↔x∈K∨x∈new:=by
  intro new
  induction new with
  |nil=>intro K;simp [qdb]
  |cons y r ih=>
   intro K;unfold qdb;rw [foldl_cons];have:=ih (if y∈K then K else K++ [y]);unfold qdb at this;rw [this];by_cases b:y∈K
   ·rw [zI b,zw];constructor
    ·rintro(h |h)
     ·exact .inl h
     ·exact .inr (.inr h)
    ·rintro(h |rfl |h)
     ·exact .inl h
     ·exact .inl b
     ·exact .inr h
   ·rw [zF b,zr,zm,zw,or_assoc]
 exact h new K
theorem q3k {l:List Bool}{k:Nat}(h:l.getD k true=false):((l.set k true).filter id).length=(l.filter id).length+1:=by
 induction l generalizing k with
 |nil=>simp at h
 |cons b r ih=>
  cases k with
  |zero=>
   simp at h;subst h;simp
  |succ k=>
   simp only [getD_cons_succ]at h;have:=ih h;cases b<;>simp [this]
theorem qxa {l:List Bool}(h:(l.filter id).length<l.length): ∃k,k<l.length/\l.getD k true=false:=by
 induction l with
 |nil=>simp at h
 |cons b r ih=>
  cases b with
  |false=>exact⟨0,wC,rfl⟩
  |true=>
   obtain⟨k,d,c⟩:=ih (by rw [ye,zI (show id true=true from rfl),length_cons,length_cons] at h;omega);exact⟨k+1,by simp;omega,by simpa using c⟩
theorem qi6 {r:RuleD}{sizes:List qas}{first:Int}(t:qed r=true)(m:qbk r first=false){j:Nat}{s:MkS}(R:j<r.body.length)(h:q9p r j s)(z:j=0->s.taken=List.replicate r.body.length false):
  ∃k:Nat,qhg r sizes first j s=(k:Int)/\k<r.body.length/\s.taken.getD k true=false/\((r.body.getD k default).kind=1∨qc2 s.K (r.body.getD k default)=true):=by
 unfold qhg;by_cases v:0<j∨first<0
 ·rw [zI v];unfold q7c;rcases q3i (K:=s.K) (rows:=s.rows) (sizes:=sizes) (ls:=r.body) (tk:=s.taken) r.body.length with hn |⟨k,h1,h2,g,h4⟩
  ·exfalso;have d:=q3j _ hn;obtain⟨k,e,p⟩:=qxa (l:=s.taken) (by rw [h.cnt,h.len];exact R);rw [h.len]at e;have q:=d k e p;have hK: ∀x,x∈qbt r.body->x∈s.K:=by
    intro x b;rw [←q3e]at b;have: ∀i,i<=r.body.length->x∈qih (r.body.take i)->x∈s.K:=by
     intro i
     induction i with
     |zero=>intro _ b;simp [qih] at b
     |succ i ih=>
      intro hi b;have u:=zB (show i<r.body.length from wA);rw [qox r.body u]at b;have c:r.body.getD i default=r.body[i]'(by omega):=by rw [zJ,u];rfl
      split at b
      ·rename_i hk1';rcases zr.1 b with b |b
       ·exact ih wA b
       ·by_cases y:s.taken.getD i true=true
        ·exact h.bnd i wA y (by rw [c];exact hk1') x (by rw [c];exact b)
        ·exact absurd (by rw [c];exact hk1') (d i wA (by simpa using y)).1
      ·exact ih wA b
    exact this r.body.length (zG _) (by rwa [zi])
   unfold qed at t;rw [zV,yM]at t;have c:r.body.getD k default=r.body[k]:=by rw [zJ,zB e];rfl
   have:=qw9 hK (t.2 (r.body.getD k default) (by rw [c];exact xE _));rw [q.2]at this;cases this
  ·exact⟨k,h1,h2,g,h4⟩
 ·rw [zF v];unfold qbk at m;rw [xF,xF,yQ,yQ]at m;have g:=m.2;rw [zS (show 0<=first from wA),yU,yQ,Classical.not_not]at g;refine⟨first.toNat,wA,wA,?_,.inl g⟩;rw [z wA,zJ,xU,zI wA]
  rfl
theorem qoh {r:RuleD}{sizes:List qas}{first:Int}(R:qb0 sizes=true)(z:qed r=true)(t:qbk r first=false)(j:Nat)(U:j<=r.body.length):q9p r j (qbz r sizes first j):=by
 induction j with
 |zero=>
  refine⟨by simp [qbz],by simp [qbz,filter_replicate],rfl,by simp only [qbz];decide,?_⟩;intro k u g;simp only [qbz]at g;rw [zJ,xU,zI u]at g;cases g
 |succ j b=>
  have b:=b wA;obtain⟨k,m,v,p,y⟩:=qi6 (sizes:=sizes) z t (show j<r.body.length from wA) b (fun h=>by subst h;rfl);have e:qbz r sizes first (j+1)=qii r sizes (k:Int) (qbz r sizes first j):=by
   show qii r sizes (qhg r sizes first j (qbz r sizes first j)) (qbz r sizes first j)=_;rw [m]
  rw [e];unfold qii;simp only [Int.toNat_natCast];refine⟨by simp only [xp];exact b.len,?_,?_,qns b.row _ _ R,?_⟩
  ·rw [q3k p,b.cnt]
  ·simp only [zR,length_singleton];rw [b.stp]
  ·intro i hi g s x q;rw [qsq];by_cases c:i=k
   ·subst c;have d:(qbh (qbz r sizes first j).K (r.body.getD i default) (i:Int)).new=qb8 (qbz r sizes first j).K (r.body.getD i default).atom.args:=by unfold qbh;rw [zF wA]
    rw [d,ql9];by_cases l:x∈(qbz r sizes first j).K
    ·exact .inl l
    ·exact .inr ⟨q,l⟩
   ·left;refine b.bnd i hi ?_ s x q
    rwa [zJ,getElem?_set_ne (fun e=>c e.symm),←zJ] at g
end Go.Proofs.P16
namespace Go.Proofs.P16
open Go.RowKit Go.Ink Go.Flt
attribute [local go_sem] Oper.semAt_some
def qoi (q:qfb×Value×Value):List Value:= [.int .i64 q.1.lit,q.2.1,q.2.2]
def StepsOwn (base:Nat)(w:World)(v:Value)(ss:List qfb):Prop:=
 ∃qs:List (qfb×Value×Value),qs.map (·.1)=ss/\w.ownsRow base 251 3 v ss.length (qs.flatMap qoi)/\
  ∀q,q∈qs->w.ownsRow base 3 1 q.2.1 q.1.bound.length (q.1.bound.map (.int .i64))/\w.ownsRow base 9 1 q.2.2 q.1.new.length (q.1.new.map .string)
theorem StepsOwn.keep {base:Nat}{w w':World}{v:Value}{ss:List qfb}{C:Nat->Prop}(h:StepsOwn base w v ss)(hK:Keep C w w')(l: ∀b cs t,base<=b->w.heap[b]?=some (.cells cs t (0,0))->t=251∨t=3∨t=9->C b):StepsOwn base w' v ss:=by
 obtain⟨p,m,ho,c⟩:=h;refine⟨p,m,qf ho hK (fun b d=>?_),fun q e=>⟨qf (c q e).1 hK (fun b d=>?_),qf (c q e).2 hK (fun b d=>?_)⟩⟩
 ·obtain⟨cs,g⟩:=qba ho d;exact l b cs _ (zE ho b d).1 g (.inl rfl)
 ·obtain⟨cs,g⟩:=qba (c q e).1 d;exact l b cs _ (zE (c q e).1 b d).1 g (.inr (.inl rfl))
 ·obtain⟨cs,g⟩:=qba (c q e).2 d;exact l b cs _ (zE (c q e).2 b d).1 g (.inr (.inr rfl))
theorem StepsOwn.mono {base b:Nat}{w:World}{v:Value}{ss:List qfb}(h:StepsOwn base w v ss)(d:b<=base):StepsOwn b w v ss:=by
 obtain⟨l,g,ho,c⟩:=h;exact⟨l,g,ho.mono d,fun q e=>⟨(c q e).1.mono d,(c q e).2.mono d⟩⟩
theorem StepsOwn.nil (base:Nat)(w:World):StepsOwn base w (.slice none 0 0) []:=⟨[],rfl,zj _ _ _ _,wC⟩
theorem StepsOwn.form {base:Nat}{w:World}{v:Value}{ss:List qfb}(h:StepsOwn base w v ss): ∃a c,v=.slice a ss.length c:=by
 obtain⟨e,d,ho,b⟩:=h;exact qi ho
theorem StepsOwn.snoc {base:Nat}{w:World}{v:Value}{ss:List qfb}(h:StepsOwn base w v ss)(s:qfb)(y z:Value)(x:w.ownsRow base 3 1 y s.bound.length (s.bound.map (.int .i64)))(hn:w.ownsRow base 9 1 z s.new.length (s.new.map .string))(hl:ss.length<=1073741824)(l:base<=w.heap.size):
  ∃v' w',(Builtin.append_ #[245,245] 245 #[v,.slice (some ⟨w.heap.size,0,none⟩) 1 1]).run prog (w.alloc (.cells #[.int .i64 s.lit,y,z] 251))=.ok v' w'/\StepsOwn base w' v' (ss++ [s])/\Keep (fun b=>some b≠v.ownBlock) w w':=by
 obtain⟨qs,hq,ho,d⟩:=h;obtain⟨ab,cb,U⟩:=qi x;obtain⟨an,cn,Y⟩:=qi hn;obtain⟨v',w',hr,R,hk,g,cap,hv,hg,ag⟩:=qc3 (P:=prog) q6g 245 ho [.int .i64 s.lit,y,z] rfl (by rw [U,Y];simp [Value.oneCell']) wA l;refine⟨v',w',hr,⟨qs++ [(s,y,z)],by rw [zn,hq];rfl,by rw [zR,yG];simpa [qoi] using R,fun q p=>?_⟩,hk⟩;have c: ∀{e sz:Nat} {u:Value} {m:Nat} {xs:List Value},w.ownsRow base e sz u m xs->e≠251->w'.ownsRow base e sz u m xs:=fun t he=>qf t hk (fun b x e2=>by
  obtain⟨c1,t1⟩:=qba t x;obtain⟨c2,t2⟩:=qba ho e2.symm;rw [t1]at t2;cases t2;exact he rfl)
 rcases zr.1 p with p |p
 ·exact⟨c (d q p).1 wD,c (d q p).2 wD⟩
 ·simp only [zm]at p;subst p;exact⟨c x wD,c hn wD⟩
def qyi (base:Nat)(w:World)(vh vb vs:Value)(p:qts):Prop:=RuleOwn base 79 77 w vh vb p.rule/\StepsOwn base w vs p.steps
def q7d (p:qts)(vh vb vs:Value):Value:=.agg #[.string p.rule.head.pred,vh,vb,vs]
theorem qqu (base:Nat)(w:World):qyi base w (.slice none 0 0) (.slice none 0 0) (.slice none 0 0) qnt:=
 ⟨⟨zj _ _ _ _,[],rfl,zj _ _ _ _,wC⟩,StepsOwn.nil _ _⟩
theorem qyj (n:Nat):madeCells #[.bool false] n=((List.replicate n false).map Value.bool).toArray:=by
 apply Array.ext
 ·simp [madeCells]
 ·intro i b c;simp [madeCells,Nat.mod_one]
theorem q3l:(prog.info? 4).map (fun i=>(i.zero,i.size,i.bytes))=some (some (.bool false),1,1):=wB
theorem qjg (n:Nat)(h:n<=1073741824)(u:World):(Instr.makeSlice 29 (.int .i64 (n:Int)) (.int .i64 (n:Int))).run prog u=
  .ok (.slice (some ⟨u.heap.size,0,none⟩) n n) (u.alloc (.cells (madeCells #[.bool false] n) 4)):=by
 obtain⟨i0,hi,b,c,d⟩:=info_parts q3l;have h:=run_make (P:=prog) u 29 4 i0 (.bool false) Tryz.underlying29 hi b .i64 .i64 (n:Int) (n:Int) wA (Int.le_refl _) (by rw [d];omega) wA
 simpa [c,Value.cells]using h
def qrr (w:World)(a:Addr):Nat:=match w.cell? a with
 |some (.slice _ n _)=>n
 |_=>0
theorem qqv {w:World}{a:Addr}{b:Option Addr}{n c:Nat}(h:w.cell? a=some (.slice b n c)):qrr w a=n:=by unfold qrr;rw [h]
theorem qqw (K:List ByteArray)(ts:List TermD): ∀c,c∈qbs K ts->0<=c:=by
 intro c b;unfold qbs at b;obtain⟨p,_,rfl⟩:=yL.1 b;omega
theorem qxb {r:RuleD}(h:qat r=true){L:LitD}(d:L∈r.body):L.kind=1∨L.kind=2∨L.kind=3:=by
 unfold qat at h;rw [zV,zV,yM]at h;have:=h.2 L d;unfold qcj at this;by_cases b:L.kind=1∨L.kind=2
 ·omega
 ·rw [zF b]at this;by_cases c:L.kind=3
  ·omega
  ·rw [zF c]at this;cases this
theorem q6h (K:List ByteArray)(L:LitD)(i:Int):(qbh K L i).bound.length<=L.atom.args.length/\(qbh K L i).new.length<=L.atom.args.length/\ ∀c,c∈(qbh K L i).bound->0<=c:=by
 unfold qbh;split
 ·simp
 ·exact⟨ql7 _ _,ql8 _ _,qqw _ _⟩
theorem q6i (K:List ByteArray)(L:LitD)(i:Int):(qbh K L i).lit=i:=by unfold qbh;split<;>rfl
theorem SizesIn.wider {n c:Nat}{w:World}{v:Value}{ss:List qas}(h:SizesIn n w v ss)(b:n<=c):SizesIn c w v ss:=
 SliceIn.wider h b fun _ _ _ _ ⟨sv,h1,h2⟩=>⟨sv,h1,SliceIn.wider h2 b fun _ _ _ _ h=>h⟩
theorem q9q {a b:Nat}(c:a<=9094988921128908188)(d:b<=9094988921128908188):(FloatKind.f64.format.order a b==some .lt)=decide (a<b):=by
 have:FloatKind.f64.format.order a b=some (compare a b):=quz wA wA;rw [this];have e:compare a b=if a<b then .lt else if a=b then .eq else .gt:=rfl
 rw [e];rcases Nat.lt_trichotomy a b with h |h |h
 ·rw [zI h,zS h];rfl
 ·rw [zF (show ¬a<b from wA),zI h,zM wA];rfl
 ·rw [zF (show ¬a<b from wA),zF (show ¬a=b from wA),zM wA];rfl
theorem q0l {K:List ByteArray}{rows:Nat}{sizes:List qas}{ls:List LitD}{tk:List Bool}{i:Nat}(b:(qbp K rows sizes ls tk i).2.2=false)(c:tk.getD i true=true):qbp K rows sizes ls tk (i+1)=qbp K rows sizes ls tk i:=by
 rw [show qbp K rows sizes ls tk (i+1)=_ from rfl];simp only [qbp,b,c,yg,zz,yy]
theorem q3m {K:List ByteArray}{rows:Nat}{sizes:List qas}{ls:List LitD}{tk:List Bool}{i:Nat}{x:LitD}(b:(qbp K rows sizes ls tk i).2.2=false)(c:tk.getD i true=false)(e:ls.getD i default=x)(d:x.kind≠1):
  qbp K rows sizes ls tk (i+1)=if qc2 K x then ((i:Int),(qbp K rows sizes ls tk i).2.1,true) else qbp K rows sizes ls tk i:=by
 rw [show qbp K rows sizes ls tk (i+1)=_ from rfl];simp only [qbp,b,c,e,d,ne_eq,not_false_eq_true,yg,zz,yy]
theorem q6j {K:List ByteArray}{rows:Nat}{sizes:List qas}{ls:List LitD}{tk:List Bool}{i:Nat}{x:LitD}(b:(qbp K rows sizes ls tk i).2.2=false)(c:tk.getD i true=false)(e:ls.getD i default=x)(d:x.kind=1):
  qbp K rows sizes ls tk (i+1)=if (qbp K rows sizes ls tk i).1<0∨qdc rows x (qbh K x i).bound sizes<(qbp K rows sizes ls tk i).2.1 then ((i:Int),qdc rows x (qbh K x i).bound sizes,false) else qbp K rows sizes ls tk i:=by
 rw [show qbp K rows sizes ls tk (i+1)=_ from rfl];simp only [qbp,b,c,e,d,ne_eq,not_true_eq_false,zz,yy]
theorem q6k (n:Nat)(r:RuleD)(sh sb:Value)(l:List qas)(sv:Value)(first:Int)(w:World)(hr:RuleIn n w sh sb r)(hl:SizesIn n w sv l)(hn:n<=w.heap.size):
  Calls prog 158 #[qaq r sh sb,sv,.int .i64 first] w fun e w'=> ∃vh vb vs,e=.returned (.tuple #[q7d (qjp r l first).1 vh vb vs,.int .i64 (qjp r l first).2])/\qyi w.heap.size w' vh vb vs (qjp r l first).1/\Keep (fun b=>b<w.heap.size) w w':=by
 have aN:=qpk hr;have hM:qjp r l first=if qd9 r l (qbk r first)≠0 then (qnt,qd9 r l (qbk r first)) else (⟨r,(qbz r l first r.body.length).steps⟩,0):=rfl
 have ao:=fun W (hK:Keep (fun b=>b<w.heap.size) w W)=>q3g n r sh sb l sv W (hr.keep (hK.mono fun b _ h=>wA)) (hl.keep (hK.mono fun b _ h=>wA)) (by have:=hK.size;omega);have ah:=fun W (hK:Keep (fun b=>b<w.heap.size) w W)=>q0j n r sh sb W (hr.keep (hK.mono fun b _ h=>wA)) (by have:=hK.size;omega);obtain⟨hh,hb⟩:=id hr;obtain⟨⟨pr,args⟩,body⟩:=r;unfold qaq at ao ah⊢;simp only at hh hb aN ao ah⊢;obtain⟨aa,ca,rfl,iy,-,-⟩:=id hh;obtain⟨ab,cb,rfl,gM,iq,fo⟩:=id hb;obtain⟨eV,eY,rfl,d5,-,-⟩:=id hl;obtain⟨N,hN⟩:=ex (w.heap.size);obtain⟨cF,dh⟩: ∃b,qbk ⟨⟨pr,args⟩,body⟩ first=b:=⟨_,rfl⟩
 clear hh hb;refine hd9 ?_ hM ao ah fo hl aN dh hN hr;clear hM ao ah fo hl aN dh hN hr;intro dC b0 bu b4 eJ eP aj q eN
 go_enter Tryz.func158,Tryz.ntmps158
 go_upto_region 1 with fail
 refine qlb (fun W=>Keep (fun b=>b<w.heap.size) w W/\W.heap.size=w.heap.size+1+1/\W.heap[w.heap.size]?=some (.cells #[.string pr,.slice aa args.length ca,.slice ab body.length cb] 27 (0,0))/\
  W.heap[w.heap.size+1]?=some (.cells #[.string ⟨#[]⟩,.slice none 0 0,.slice none 0 0,.slice none 0 0] 247 (0,0))) ⟨kAl.trans kAl,wC,by simp only [qar,zO];simp,by simp only [qar,zO];simp⟩ ?_
 rintro W0 ⟨k0,z0,a1,a2⟩;rw [q.o]at k0 z0 a1 a2⊢;have c0:=qb a1 0 _ rfl;have c1:=qb a1 1 _ rfl;have c2:=qb a1 2 _ rfl;have r0:=qb a2 0 _ rfl;have r1:=qb a2 1 _ rfl;have r2:=qb a2 2 _ rfl;have r3:=qb a2 3 _ rfl;have f0:=qg a2 0;have f1:=qg a2 1;have f2:=qg a2 2;have f3:=qg a2 3;simp only [zD]at c0 c1 c2 r0 r1 r2 r3;have cH:N<W0.heap.size:=wA
 have ci:N+1<W0.heap.size:=wA
 refine hd3 ?_ k0 a1 a2;clear k0 a1 a2;intro bw gd es
 go_cut [40] from 19 to 40 (fun c wx=>c=.bool cF/\wx=W0)
 case first=>
  have hB:=aj.o;unfold qbk at hB;by_cases h1:first< -1
  ·rw [zS h1,Bool.true_or,Bool.true_or]at hB;subst hB;go_wp2_with fail
   go_meet
   exact⟨rfl,rfl⟩
  ·rw [zM h1,xH]at hB;by_cases h2:(body.length:Int)<=first
   ·simp only [zS h2,Bool.true_or]at hB;subst hB;go_wp2_with fail
    go_meet
    exact⟨rfl,rfl⟩
   ·simp only [zM h2,xH]at hB;by_cases h3:0<=first
    ·obtain⟨k,rfl⟩: ∃k:Nat,first=k:=⟨first.toNat,wA⟩
     rw [zS h3,yU,Int.toNat_natCast]at hB;obtain⟨x,hx⟩: ∃x,body[k]?=some x:=⟨_,zB wA⟩;obtain⟨b,o,rfl,io,sa,aZ,am⟩:=b4.o k x hx;have d0:=bw.o.cell (aZ 0 _ rfl) (show b<N by have:=q.o;omega);simp only [Nat.add_zero]at d0;have aK:b<W0.heap.size:=by have:=q.o;omega
     have av:body.getD k default=x:=by rw [zJ,hx];rfl
     rw [av]at hB;have fq:(x.kind !=1)=cF:=by rw [←hB];by_cases h:x.kind=1<;>simp [h]
     clear hB aZ am hx av;cases cF
     all_goals go_wp2_with fail
     all_goals go_meet
     all_goals exact⟨rfl,rfl⟩
    ·rw [zM h3,yZ]at hB;subst hB;go_wp2_with fail
     go_meet
     exact⟨rfl,rfl⟩
 case rest=>
  obtain⟨rfl,bN⟩:=hcut;subst bN;cases cF
  ·have ae:=b0.o wc (bw.o.mono fun b _ h=>by have:=q.o;omega);obtain⟨ea,aL⟩: ∃e,qd9 ⟨⟨pr,args⟩,body⟩ l false=e:=⟨_,rfl⟩;rw [aL]at ae;by_cases bK:ea=0
   ·have aV:qjp ⟨⟨pr,args⟩,body⟩ l first=(⟨⟨⟨pr,args⟩,body⟩,(qbz ⟨⟨pr,args⟩,body⟩ l first body.length).steps⟩,0):=by
     rw [dC.o,aj.o,aL,bK];rfl
    have co:qat ⟨⟨pr,args⟩,body⟩=true/\qb0 l=true/\qed ⟨⟨pr,args⟩,body⟩=true:=by
     rw [bK]at aL;unfold qd9 at aL;cases h1:qat ⟨⟨pr,args⟩,body⟩<;>cases h2:qb0 l<;>cases h3:qed ⟨⟨pr,args⟩,body⟩<;>rw [h1,h2,h3] at aL<;>first |exact⟨rfl,rfl,rfl⟩ |(exfalso;revert aL;decide)
    subst bK;clear aL;refine hd3 ?_ aV ae co;clear aV ae co;intro aR b5 R;go_wp2_with fail;refine b5.o.mono ?_;rintro e W1 ⟨rfl,k1⟩;have gT:=k1.size;have e0:=k1.cell c0 cH;have e1:=k1.cell c1 cH;have e2:=k1.cell c2 cH;have cL:N<W1.heap.size:=wA
    have fn:=bu.o W1 ((bw.o.trans (k1.mono fun b _ h=>wA)).mono fun b _ h=>by have:=q.o;omega);clear c0 c1 c2 r0 r1 r2 r3 f0 f1 f2 f3;refine hd2 ?_ k1 fn;clear k1 fn;intro b9 eG;go_wp2_with fail;refine eG.o.mono ?_;rintro e W2 ⟨vh,vb,rfl,ho,k2⟩;have iD:=k2.size;have g0:=k2.cell e0 cL;have g1:=k2.cell e1 cL;have g2:=k2.cell e2 cL;have gL:N<W2.heap.size:=wA
    obtain⟨bz,bH,rfl⟩:=qi ho.1;obtain⟨bx,bG,rfl⟩: ∃a c,vb=.slice a body.length c:=by
     obtain⟨ps,iA,h,_⟩:=ho.2;exact qi h
    have gR:=fun w=>qow w;have gQ:=fun u=>qjg body.length gM u;clear e0 e1 e2;refine hd2 ?_ ho k2;clear ho k2;intro gm dT;go_wp2_with fail;refine qlb (fun W=>Keep (fun b=>b<W2.heap.size) W2 W/\W.heap.size=W2.heap.size+1+1+1/\W.heap[W2.heap.size]?=some (.cells #[.string pr,.slice bz args.length bH,.slice bx body.length bG,.slice none 0 0] 247 (0,0))/\
     SetIn W (W2.heap.size+1) []/\W.heap[W2.heap.size+1+1]?=some (.cells ((List.replicate body.length false).map Value.bool).toArray 4 (0,0)))
     ⟨(kAl.trans kAl).trans kAl,wC,by simp only [qar,zO];simp;omega,by
      refine(SetIn.keep (w:=(W2.alloc (.cells #[.string pr,.slice bz args.length bH,.slice bx body.length bG,.slice none 0 0] 247)).alloc (.map #[] 0)) ?_ (Keep.alloc (fun _=>True) _ _) wF);have:=qm9 (W2.alloc (.cells #[.string pr,.slice bz args.length bH,.slice bx body.length bG,.slice none 0 0] 247))
      simpa using this,by rw [qyj];simp only [qar,zO];simp⟩ ?_
    rintro W3 ⟨k3,z3,p1,s1,t1⟩;clear gR gQ g0 g1 g2;have b2:W2.heap[N]?=some (.cells #[.string pr,.slice aa args.length ca,.slice ab body.length cb] 27 (0,0)):=dT.o.heap (b9.o.heap gd.o cH) cL;have b3:W2.heap[N+1]?=some (.cells #[.string ⟨#[]⟩,.slice none 0 0,.slice none 0 0,.slice none 0 0] 247 (0,0)):=dT.o.heap (b9.o.heap es.o ci) wA;have a3:=k3.heap b2 gL;have a4:=k3.heap b3 (show N+1<W2.heap.size from wA);have fz:Keep (fun b=>b<N) w W3:=((bw.o.trans (b9.o.mono fun b _ h=>wA)).trans (dT.o.mono fun b _ h=>wA)).trans (k3.mono fun b _ h=>wA);obtain⟨P,hP⟩:=ex (W2.heap.size);rw [hP]at z3 p1 s1 t1⊢;have ik:N+1<P:=wA
    have hz:W1.heap.size<=P:=wA
    have ip:W1.heap.size≥N:=wA
    clear b2 b3;refine hd8 ?_ p1 s1 t1 a3 a4 fz k3 hP;clear p1 s1 t1 a3 a4 fz k3 hP;intro gp gq gr gf gg eS gn gj
    go_loopw [12] (fun g9 wr=> ∃(j:Nat) (vs:Value),j<=body.length/\g9=.float .f64 (qbz ⟨⟨pr,args⟩,body⟩ l first j).rows/\Keep (fun b=>b<P) W3 wr/\
     wr.heap[P]?=some (.cells #[.string pr,.slice bz args.length bH,.slice bx body.length bG,vs] 247 (0,0))/\SetIn wr (P+1) (qbz ⟨⟨pr,args⟩,body⟩ l first j).K/\
     wr.heap[P+1+1]?=some (.cells ((qbz ⟨⟨pr,args⟩,body⟩ l first j).taken.map Value.bool).toArray 4 (0,0))/\StepsOwn (P+1+1+1) wr vs (qbz ⟨⟨pr,args⟩,body⟩ l first j).steps/\P+1+1+1<=wr.heap.size) (fun _ wr=>body.length-qrr wr ⟨P,3,none⟩)
    case atStart=>exact⟨0,_,wA,rfl,Keep.refl _ _,gp.o,gq.o,gr.o,StepsOwn.nil _ _,wA⟩
    case round=>
     obtain⟨j,vs,hj,rfl,hK,aE,hS,hT,bM,iB⟩:=hrel;have a6:=qoh (first:=first) R.o.2.1 R.o.2.2 aj.o j hj;obtain⟨cE,cG,rfl⟩:=bM.form;rw [a6.stp]at aE;have iv:(0:Int)<=j:=wA
     have x3:=qb aE 3 _ rfl;have a5:=hK.heap gf.o (show N<P from wA);have c0:=qb a5 0 _ rfl;have c1:=qb a5 1 _ rfl;have c2:=qb a5 2 _ rfl;simp only [zD]at x3 c0 c1 c2;have il:=qe aE;have ij:N<wr.heap.size:=wA
     have kw:Keep (fun b=>b<N) w wr:=eS.o.trans (hK.mono fun b _ h=>wA);have U:=a6.stp;obtain⟨s,hs⟩:=ex (qbz ⟨⟨pr,args⟩,body⟩ l first j);rw [hs]at hS hT bM a6 U⊢;by_cases gN:j<body.length
     ·have hL:(j:Int)<body.length:=by omega
      have gI:=qi6 (sizes:=l) R.o.2.2 aj.o gN a6 (fun h=>by subst h;rw [←hs];rfl);obtain⟨Y,dj,cp,dk,dl⟩:=gI;clear a5;refine qhw ?_ hK aE hS hT bM a6 kw hs U dj dk dl;clear hK aE hS hT bM a6 kw hs U dj dk dl;intro eu bW cB dF b7 ar bb dN z a9 gk gl
      go_upto_region 12 with fail
      go_cut [72] from 57 to 136 (fun c wx=>c=.bool (decide (0<j∨first<0))/\wx=wr)
      case first=>
       by_cases gH:0<j
       ·have iw:0<(j:Int):=by omega
        have cn:decide (0<j∨first<0)=true:=zS (.inl gH);refine hd1 ?_ cn;clear cn;intro b1;go_wp2_with fail
        go_meet
        exact⟨by rw [b1.o],rfl⟩
       ·obtain rfl:j=0:=by omega
        have cn:decide (0<0∨first<0)=decide (first<0):=by rw [yj];omega
        refine hd1 ?_ cn;clear cn;intro b1;go_wp2_with fail
        go_meet
        exact⟨by rw [b1.o],rfl⟩
      case rest=>
       obtain⟨rfl,bN⟩:=hcut;have bN:=bN.symm;subst bN;obtain⟨bc,d3⟩: ∃b,decide (0<j∨first<0)=b:=⟨_,rfl⟩;rw [d3];refine hd1 ?_ d3;clear d3;intro cV;obtain⟨Wo,gG⟩: ∃W,W=wr:=⟨_,rfl⟩;subst gG
       go_upto_if 72 with fail
       go_cut [13,14,15,16,17] from 57 to 136 (fun c iX iY iZ i0 wx=>c=.int .i64 (Y:Int)/\wE Wo wx)
       case first=>
        cases bc
        ·have gK:first=(Y:Int):=by
          have h1:=a9.o;unfold qhg at h1
          rwa [zF (xT cV.o)] at h1
         subst gK;go_wp2_with fail
         go_meet
         exact⟨rfl,Keep.refl _ _⟩
        ·have fs:(qbp s.K s.rows l body s.taken body.length).1=(Y:Int):=by
          have h1:=a9.o;unfold qhg at h1;rw [zI (yE cV.o)]at h1;exact h1
         have bq:=fun(i:Nat) (x:LitD) (hx:body[i]?=some x) sa (am:qak n w sa x.atom.args) W (hK:wE Wo W)=>qsj n (P+1) s.K x sa W (cB.o.keep hK wF) (qan am (bb.o.trans hK.mt |>.mono fun b _ h=>by have:=q.o;omega)) (by have:=hK.size;have:=q.o;omega);have aO:=fun(i:Nat) (x:LitD) (hx:body[i]?=some x) W (hK:wE Wo W)=>qpf n (P+1) s.K ⟨⟨pr,args⟩,body⟩ (.slice aa args.length ca) (.slice ab body.length cb) i x hx W (cB.o.keep hK wF) (eN.o.keep (bb.o.trans hK.mt |>.mono fun b _ h=>by have:=q.o;omega)) (by have:=hK.size;have:=q.o;omega);have di:=fun(x:LitD) (ae:x.kind=1) sa (am: ∃y m c,sa=.slice y m c) (st:qfb) (hpos: ∀c,c∈st.bound->0<=c) bv nv W (hK:wE Wo W) (hnv: ∃y m c,nv=.slice y m c) (hb:qay W.heap.size W bv st.bound)=>
          qqs W.heap.size s.rows ar.o.row x sa st bv nv l (.slice eV l.length eY) R.o.2.1 hpos (.inl ae) W am hnv (SizesIn.wider (eJ.o.keep (bb.o.trans hK.mt |>.mono fun b _ h=>by have:=q.o;omega)) (by have:=hK.size;have:=q.o;omega)) hb (zG _)
         unfold qaq at aO;simp only at aO;have d5:=fun i=>q0k (K:=s.K) ar.o.row R.o.2.1 (ls:=body) (tk:=s.taken) i;refine hd5 ?_ fs bq aO di d5;clear fs bq aO di d5;intro cW b6 cD dI eL;go_wp2_with fail
         go_step3
         go_wp2_with fail
         go_step3
         go_wp2_with fail
         go_loopw [13,14,76] (fun ha hc he wq=> ∃i:Nat,i<=body.length/\he=.int .i64 (i:Int)/\ha=.int .i64 (qbp s.K s.rows l body s.taken i).1/\hc=.float .f64 (qbp s.K s.rows l body s.taken i).2.1/\(qbp s.K s.rows l body s.taken i).2.2=false/\wE Wo wq) (fun _ _ i _=>body.length-(intOf i).toNat)
         case atStart=>exact⟨0,wA,rfl,rfl,rfl,rfl,Keep.refl _ _⟩
         case round=>
          obtain⟨i,hi,rfl,rfl,rfl,ag,ad⟩:=hrel;have iG:=ad.size;have ii:N<wr.heap.size:=wA
          have d0:=ad.cell c0 trivial;have d1:=ad.cell c1 trivial;have d2:=ad.cell c2 trivial;have cJ:=ad.heap dF.o trivial;by_cases dp:i<body.length
          ·have gO:(i:Int)<body.length:=by omega
           have ir:(0:Int)<=i:=wA
           obtain⟨x,hx⟩: ∃x,body[i]?=some x:=⟨_,zB dp⟩;obtain⟨b,o,rfl,hb,sa,aZ,am⟩:=b4.o i x hx;obtain⟨tb,an⟩: ∃t,s.taken.getD i true=t:=⟨_,rfl⟩;have fx:wr.cell? ⟨P+1+1,i,none⟩=some (.bool tb):=by
            have aH:i<s.taken.length:=by rw [ar.o.len];exact dp
            have:=qb cJ i (.bool tb) (by rw [zP,zB aH,←an,zJ,zB aH];rfl)
            rwa [zD] at this
           have gF:=qe cJ;have av:body.getD i default=x:=by rw [zJ,hx];rfl
           have ct:=b6.o i x hx sa am;have ay:=cD.o i x hx;have aG:=fun ae=>dI.o x ae sa;obtain⟨aS,aU,rfl,gP,-,-⟩:=id am;have fA:Keep (fun b=>b<N) w wr:=bb.o.trans ad.mt;have g: ∀j v,(qap x (.slice aS x.atom.args.length aU))[j]?=some v->wr.cell? ⟨b,o+i*7+j,none⟩=some v:=fun j v h=>fA.cell (aZ j v h) (show b<N by have:=q.o;omega);have m0:=g 0 _ rfl;have m1:=g 1 _ rfl;have m2:=g 2 _ rfl;have m3:=g 3 _ rfl;have m4:=g 4 _ rfl;have m5:=g 5 _ rfl;have m6:=g 6 _ rfl;simp only [Nat.add_zero]at m0;have aK:b<wr.heap.size:=by have:=q.o;omega
           obtain⟨W5,aF⟩:=ex (wr.alloc (.cells #[.int .i64 x.kind,.string x.atom.pred,.slice aS x.atom.args.length aU,.bool x.left.var,.string x.left.text,.bool x.right.var,.string x.right.text] 79));have k5:wE wr W5:=by rw [←aF];exact kAl
           have aD:=ad.trans k5;have iE:=k5.size;have aJ:W5.heap[wr.heap.size]?=some (.cells #[.int .i64 x.kind,.string x.atom.pred,.slice aS x.atom.args.length aU,.bool x.left.var,.string x.left.text,.bool x.right.var,.string x.right.text] 79 (0,0)):=by rw [←aF];exact qh _ _
           have ix:=qe aJ;have q0:=qb aJ 0 _ rfl;have q1:=qb aJ 1 _ rfl;have q2:=qb aJ 2 _ rfl;have q3:=qb aJ 3 _ rfl;have q4:=qb aJ 4 _ rfl;have q5:=qb aJ 5 _ rfl;have q6:=qb aJ 6 _ rfl;simp only [zD]at q0 q1 q2 q3 q4 q5 q6;have e0:=k5.cell d0 trivial;have e1:=k5.cell d1 trivial;have e2:=k5.cell d2 trivial;unfold qep at ct aG;clear g aZ am cJ aJ fA;cases tb
           ·by_cases ae:x.kind=1
            ·have d:=q6j (sizes:=l) (rows:=s.rows) ag an av ae;have fv:(qbh s.K x i).bound=qbs s.K x.atom.args:=by unfold qbh;rw [zF wA]
             have fw:(qbh s.K x i).new=qb8 s.K x.atom.args:=by unfold qbh;rw [zF wA]
             have bs:=ay W5.drew (aD.trans kDr);have hI:=ql7 s.K x.atom.args;have hJ:=ql8 s.K x.atom.args;have aY:=aG ae ⟨_,_,_,rfl⟩ ⟨(i:Int),qbs s.K x.atom.args,qb8 s.K x.atom.args⟩ (qqw _ _);unfold qkp at aY;simp only at aY;have ft:=qns ar.o.row x (qbs s.K x.atom.args) R.o.2.1;rw [fv]at d bs;rw [fw]at bs;have fq:(x.kind !=1)=false:=by simp [ae]
             obtain⟨nb,dq⟩:=ex (qdc s.rows x (qbs s.K x.atom.args) l);simp only [dq]at d aY ft;have dm:=eL.o i;obtain⟨bi,cK⟩:=ex ((qbp s.K s.rows l body s.taken i).1);obtain⟨li,cq⟩:=ex ((qbp s.K s.rows l body s.taken i).2.1);rw [cK,cq]at d;rw [cq]at dm;rw [cK,cq];have dn:=q9q ft dm;clear ae av hx ct ay aG fv fw dq;refine qhw ?_ d ag ad bs aY an aF k5 aD cK cq dn;clear d ag ad bs aY an aF k5 aD cK cq dn;intro p au aQ dR dJ b8 ap dU ak eE eK aq;go_wp2_with fail;rw [ap.o]
             go_region_held3 (fun W=>W.cell? ⟨wr.heap.size,0,none⟩=some (.int .i64 x.kind)/\W.cell? ⟨wr.heap.size,1,none⟩=some (.string x.atom.pred)/\W.cell? ⟨wr.heap.size,2,none⟩=some (.slice aS x.atom.args.length aU)/\W.cell? ⟨wr.heap.size,3,none⟩=some (.bool x.left.var)/\W.cell? ⟨wr.heap.size,4,none⟩=some (.string x.left.text)/\W.cell? ⟨wr.heap.size,5,none⟩=some (.bool x.right.var)/\W.cell? ⟨wr.heap.size,6,none⟩=some (.string x.right.text)/\
       W.cell? ⟨N,0,none⟩=some (.string pr)/\W.cell? ⟨N,1,none⟩=some (.slice aa args.length ca)/\W.cell? ⟨N,2,none⟩=some (.slice (some ⟨b,o,none⟩) body.length cb))
              (first |(refine⟨?_,?_,?_,?_,?_,?_,?_,?_,?_,?_⟩<;>assumption) |go_keep)
              (first
               |(go_at_call 211;refine dR.o.mono ?_;rintro e w1 ⟨vb,vn,rfl,ob,on,hq⟩;have fD:=hq.cell q0 (by simp;omega);have fF:=hq.cell q1 (by simp;omega);have fH:=hq.cell q2 (by simp;omega);have fJ:=hq.cell q3 (by simp;omega);have fL:=hq.cell q4 (by simp;omega);have fN:=hq.cell q5 (by simp;omega);have fP:=hq.cell q6 (by simp;omega);have e4:=hq.cell e0 (by simp;omega);have e7:=hq.cell e1 (by simp;omega);have dW:=hq.cell e2 (by simp;omega);have zq:=hq.size;simp only [World.size_drew] at zq;clear q0 q1 q2 q3 q4 q5 q6 e0 e1 e2)
               |(go_at_call 210;refine(dJ.o vb vn w1 ((ak.o.trans kDr).trans (hq.mono fun b hb _=>hb)) (by obtain⟨ax,cx,hx⟩:=qi on;exact⟨_,_,_,hx⟩) (qfk ob wA)).mono ?_;rintro e w2 ⟨rfl,hp⟩;have fE:=hp.cell fD (by simp;omega);have fG:=hp.cell fF (by simp;omega);have fI:=hp.cell fH (by simp;omega);have fK:=hp.cell fJ (by simp;omega);have fM:=hp.cell fL (by simp;omega);have fO:=hp.cell fN (by simp;omega);have fQ:=hp.cell fP (by simp;omega);have e5:=hp.cell e4 (by simp;omega);have e8:=hp.cell e7 (by simp;omega);have e9:=hp.cell dW (by simp;omega);have zp:=hp.size;clear fD fF fH fJ fL fN fP e4 e7 dW))
             have fc:wE Wo w2:=((ak.o.trans kDr).trans (hq.mono fun b hb _=>hb)).trans (hp.mono fun b hb _=>hb);have d:=p.o;clear hq hp ob on fE fG fI fK fM fO fQ e5 e8 e9 p m0 m1 m2 m3 m4 m5 m6 d0 d1 d2;refine hd1 ?_ fc;clear fc;intro bV;by_cases fm:bi<0
             ·rw [zI (.inl fm)]at d;clear aq;refine hd1 ?_ d;clear d;intro p;go_wp2_with fail;go_roundw
              case rel=>exact⟨i+1,wA,by go_num,by rw [p.o],by rw [p.o],by rw [p.o],bV.o⟩
              case measure=>simp [intOf];omega
             ·by_cases bL:nb<li
              ·rw [zI (.inr bL)]at d;have aH:=aq.o;rw [zS bL]at aH;clear aq bL;refine hd1 ?_ d;clear d;intro p;go_wp2_with fail;go_roundw
               case rel=>exact⟨i+1,wA,by go_num,by rw [p.o],by rw [p.o],by rw [p.o],bV.o⟩
               case measure=>simp [intOf];omega
              ·rw [zF (fun h=>h.elim fm bL)]at d;have aH:=aq.o;rw [zM bL]at aH;clear aq bL;refine hd1 ?_ d;clear d;intro p;go_wp2_with fail;go_roundw
               case rel=>exact⟨i+1,wA,by go_num,by rw [p.o,eE.o],by rw [p.o,eK.o],by rw [p.o];exact au.o,bV.o⟩
               case measure=>simp [intOf];omega
            ·have d:=q3m (sizes:=l) ag an av ae;have fq:(x.kind !=1)=true:=bne_iff_ne.2 ae;have a7:=ct W5 aD;obtain⟨rb,cr⟩: ∃b,qc2 s.K x=b:=⟨_,rfl⟩;rw [cr]at d a7;clear ae av hx ct ay aG;cases rb
             ·simp only [zz,yy]at d;rw [←d];rw [←d]at ag;refine hd9 ?_ d ag ad a7 cr an aF k5 aD;clear d ag ad a7 cr an aF k5 aD;intro p au aQ ba eO b8 ap dU ak;go_wp2_with fail;rw [ap.o];refine ba.o.mono ?_;rintro e W6 ⟨rfl,k6⟩;go_wp2_with fail;go_roundw
              case rel=>exact⟨i+1,wA,by go_num,rfl,rfl,au.o,ak.o.trans (k6.mono fun b hb _=>hb)⟩
              case measure=>simp [intOf];omega
             ·simp only [yg]at d;have a0:(i:Int)=(Y:Int):=by
               have h1:=q3h (i:=i+1) (K:=s.K) (rows:=s.rows) (sizes:=l) (ls:=body) (tk:=s.taken) (by rw [d]) body.length wA;rw [←cW.o,h1,d]
              refine qdx ?_ d ag ad a7 cr an aF k5 aD a0;clear d ag ad a7 cr an aF k5 aD a0;intro p au aQ ba eO b8 ap dU ak a8;go_wp2_with fail;rw [ap.o];refine ba.o.mono ?_;rintro e W6 ⟨rfl,k6⟩;go_wp2_with fail;refine Met.intro ?_
              go_step
              go_meet
              exact⟨by rw [a8.o],ak.o.trans (k6.mono fun b hb _=>hb)⟩
           ·have d:=q0l (rows:=s.rows) (sizes:=l) (ls:=body) ag an;rw [←d];rw [←d]at ag;clear av hx ct ay aG;refine hd7 ?_ d ag ad an aF k5 aD;clear d ag ad an aF k5 aD;intro p au aQ b8 ap dU ak;go_wp2_with fail;rw [ap.o];go_roundw
            case rel=>exact⟨i+1,wA,by go_num,rfl,rfl,au.o,ak.o⟩
            case measure=>simp [intOf];omega
          ·obtain rfl:i=body.length:=by omega
           have a0:=cW.o;clear cJ;refine hd3 ?_ ag ad a0;clear ag ad a0;intro au aQ a8;go_wp2_with fail;refine Met.intro ?_
           go_step
           go_meet
           exact⟨by rw [a8.o],aQ.o⟩
       case rest=>
        obtain⟨rfl,al⟩:=hcut;clear bN;have iH:=al.size;have gA:N<wc.heap.size:=wA
        have d0:=al.cell c0 trivial;have d1:=al.cell c1 trivial;have d2:=al.cell c2 trivial;have fl:=al.heap dF.o trivial;have fi:=al.heap bW.o trivial;have dZ:=cB.o.keep al trivial;have dv:=b7.o.keep al (fun _ _ _ _ _ _=>wF);have cM:Keep (fun b=>b<N) w wc:=bb.o.trans al.mt;have fe:Keep (fun b=>b<P) W3 wc:=eu.o.trans al.mt;obtain⟨x,hx⟩: ∃x,body[Y]?=some x:=⟨_,zB cp⟩;obtain⟨b,o,rfl,hb,sa,aZ,am⟩:=b4.o Y x hx;have ay:=qpf n (P+1) s.K ⟨⟨pr,args⟩,body⟩ (.slice aa args.length ca) (.slice (some ⟨b,o,none⟩) body.length cb) Y x hx wc dZ (eN.o.keep (cM.mono fun b _ h=>by have:=q.o;omega)) (by have:=q.o;omega);unfold qaq at ay;simp only at ay;have av:body.getD Y default=x:=by rw [zJ,hx];rfl
        have fr:=qxb R.o.1 (zH hx);obtain⟨dr,ds,br⟩:=q6h s.K x Y;have bf:=q6i s.K x Y;obtain⟨st,cv⟩:=ex (qbh s.K x Y);rw [cv]at ay dr ds br bf;obtain⟨hZ,aA,aB⟩:=st;simp only at ay dr ds br bf;subst bf;obtain⟨aS,aU,rfl,gP,-,-⟩:=id am;have g: ∀j v,(qap x (.slice aS x.atom.args.length aU))[j]?=some v->wc.cell? ⟨b,o+Y*7+j,none⟩=some v:=fun j v h=>cM.cell (aZ j v h) (show b<N by have:=q.o;omega);have m0:=g 0 _ rfl;have m1:=g 1 _ rfl;have m2:=g 2 _ rfl;have m3:=g 3 _ rfl;have m4:=g 4 _ rfl;have m5:=g 5 _ rfl;have m6:=g 6 _ rfl;simp only [Nat.add_zero]at m0;have aK:b<wc.heap.size:=by have:=q.o;omega
        have im:b<N:=by have:=q.o;omega
        have hH:(Y:Int)<body.length:=by have:=cp;simp only at this;omega
        have hG:(0:Int)<=Y:=wA
        clear g aZ am hx c0 c1 c2 x3;refine qhw ?_ al fl fi dZ dv cM fe ay av fr cv br;clear al fl fi dZ dv cM fe ay av fr cv br;intro hg cU cS cT dQ eT ey eQ eH eI dS dO;go_wp2_with fail;refine eQ.o.mono ?_;rintro e W6 ⟨vb,vn,rfl,ob,on,k6⟩;have iF:=k6.size;obtain⟨cc,cf,rfl⟩:=qi ob;obtain⟨cd,cg,rfl⟩:=qi on;obtain⟨W7,ck⟩:=ex (W6.alloc (.cells #[.int .i64 (Y:Int),.slice cc aA.length cf,.slice cd aB.length cg] 251));have k7:wE W6 W7:=by rw [←ck];exact kAl
        have z7:W7.heap.size=W6.heap.size+1:=by rw [←ck];simp
        have bD:=qh W6 (.cells #[.int .i64 (Y:Int),.slice cc aA.length cf,.slice cd aB.length cg] 251);rw [ck]at bD;obtain⟨D,hD⟩:=ex (W6.heap.size);have az:Keep (fun b=>b<wc.heap.size) wc W7:=k6.trans k7.mt;have hy:N<W7.heap.size:=wA
        have e2:=az.cell d2 gA;have n0:=az.cell m0 aK;have n1:=az.cell m1 aK;have n2:=az.cell m2 aK;have n3:=az.cell m3 aK;have n4:=az.cell m4 aK;have n5:=az.cell m5 aK;have n6:=az.cell m6 aK;have eb:=qf ob k7 (fun _ _=>wF);have fC:=qf on k7 (fun _ _=>wF);rw [hD]at bD z7;have p0:=qb bD 0 _ rfl;have p1:=qb bD 1 _ rfl;have p2:=qb bD 2 _ rfl;simp only [zD]at p0 p1 p2;have fa:D<W7.heap.size:=wA
        have hF:b<W7.heap.size:=wA
        have ie:wc.heap.size<=D:=wA
        have d8:Keep (fun b=>b<N) w W7:=eT.o.trans (az.mono fun b _ h=>wA);have aG:=qqs W7.drew.heap.size s.rows ar.o.row x (.slice aS x.atom.args.length aU) ⟨(Y:Int),aA,aB⟩ (.slice cc aA.length cf) (.slice cd aB.length cg) l (.slice eV l.length eY) R.o.2.1 dO.o eI.o W7.drew ⟨_,_,_,rfl⟩ ⟨_,_,_,rfl⟩
         (SizesIn.wider (eJ.o.keep ((d8.trans kDr).mono fun b _ h=>by have:=q.o;omega)) (by have:=q.o;simp;omega)) (qfk (qf eb (Keep.drew (fun _=>True) _) (fun _ _=>wF)) (by simp only;omega)) (zG _)
        unfold qep qkp at aG;simp only at aG;clear k6 k7 ob on d0 d1 d2 m0 m1 m2 m3 m4 m5 m6;refine hd8 ?_ ck hD bD az eb fC d8 aG;clear ck hD bD az eb fC d8 aG;intro eB gi gh eR cX cZ hk eD;go_wp2_with fail;rw [eB.o,gi.o]
        go_region_held3 (fun W=>W.cell? ⟨b,o+Y*7,none⟩=some (.int .i64 x.kind)/\W.cell? ⟨b,o+Y*7+1,none⟩=some (.string x.atom.pred)/\W.cell? ⟨b,o+Y*7+2,none⟩=some (.slice aS x.atom.args.length aU)/\W.cell? ⟨b,o+Y*7+3,none⟩=some (.bool x.left.var)/\W.cell? ⟨b,o+Y*7+4,none⟩=some (.string x.left.text)/\W.cell? ⟨b,o+Y*7+5,none⟩=some (.bool x.right.var)/\W.cell? ⟨b,o+Y*7+6,none⟩=some (.string x.right.text)/\
       W.cell? ⟨D,0,none⟩=some (.int .i64 (Y:Int))/\W.cell? ⟨D,1,none⟩=some (.slice cc aA.length cf)/\W.cell? ⟨D,2,none⟩=some (.slice cd aB.length cg)/\W.cell? ⟨N,2,none⟩=some (.slice (some ⟨b,o,none⟩) body.length cb))
         (first |(refine⟨?_,?_,?_,?_,?_,?_,?_,?_,?_,?_,?_⟩<;>assumption) |go_keep)
         ((go_at_call 210;refine eD.o.mono ?_;rintro e w2 ⟨rfl,hp⟩;have iJ:=hp.cell n0 (by simp;omega);have iK:=hp.cell n1 (by simp;omega);have iL:=hp.cell n2 (by simp;omega);have iM:=hp.cell n3 (by simp;omega);have iN:=hp.cell n4 (by simp;omega);have iO:=hp.cell n5 (by simp;omega);have iP:=hp.cell n6 (by simp;omega);have iR:=hp.cell p0 (by simp;omega);have iS:=hp.cell p1 (by simp;omega);have iT:=hp.cell p2 (by simp;omega);have dW:=hp.cell e2 (by simp;omega);have zp:=hp.size;simp only [World.size_drew] at zp;clear n0 n1 n2 n3 n4 n5 n6 e2))
        have cw:Keep (fun b=>b<W7.heap.size) W7 w2:=kDr.trans (hp.mono fun b _ h=>h);have bR:Keep (fun b=>b<wc.heap.size) wc w2:=eR.o.trans (cw.mono fun b _ h=>wA);have cj:=bR.heap cU.o (by have:=qe cU.o;exact this);have fh:=bR.heap cS.o (by have:=qe cS.o;exact this);have fk:=cT.o.keep bR (by have:=cT.o.lt;exact this);have dt:=dQ.o.keep bR (fun b cs t _ h _=>qe h);have d9:=(qf cX.o cw (fun b hb=>(zE cX.o b hb).2)).mono (show P+1+1+1<=wc.heap.size from wA);have ec:=(qf cZ.o cw (fun b hb=>(zE cZ.o b hb).2)).mono (show P+1+1+1<=wc.heap.size from wA);have eW:=cw.heap gh.o fa;have fb:Keep (fun b=>b<P) W3 w2:=ey.o.trans (bR.mono fun b _ h=>wA);have gS:Y<(s.taken.map Value.bool).length:=by rw [zL,ar.o.len];exact cp
        have fx:=qb cj Y _ (zB gS);have iC:=qg cj Y;rw [zD]at fx;have gF:=qe cj;obtain⟨W9,cl⟩:=ex (w2.setCell ⟨P+1+1,Y,none⟩ (.bool true));have k9:Keep (fun b=>b≠P+1+1) w2 W9:=by rw [←cl];exact kSc
        have z9:W9.heap.size=w2.heap.size:=by rw [←cl];simp [World.setCell]
        have cI:=qaj Y (.bool true) cj;rw [cl]at cI;have bd:(s.taken.map Value.bool).toArray.setIfInBounds Y (.bool true)=((s.taken.set Y true).map Value.bool).toArray:=by
         rw [yK,map_set]
        rw [bd]at cI;have dX:=k9.heap fh wA;have dY:=fk.keep k9 wA;have du:=dt.keep k9 (fun b cs t h _ _=>wA);have fB:=qf d9 k9 (fun b hb=>by have:=(zE d9 b hb).1;omega);have ed:=qf ec k9 (fun b hb=>by have:=(zE ec b hb).1;omega);have bF:=k9.heap eW wA;have fd:Keep (fun b=>b<P) W3 W9:=fb.trans (k9.mono fun b _ h=>wA);clear hp cw bR cj fh fk dt d9 ec eW fb p0 p1 p2 k9;have bm:=qsl W9.heap.size (P+1) s.K ⟨(Y:Int),aA,aB⟩ (.slice cc aA.length cf) (.slice cd aB.length cg) W9 dY (qbj ed (by simp only;omega)) (zG _);unfold qkp at bm;simp only at bm;have u0:=qb bF 0 _ rfl;have fS:=qb bF 1 _ rfl;have fT:=qb bF 2 _ rfl;simp only [zD]at u0 fS fT;have hu:=qe bF;have hC:=qe dX;clear fa;refine qib ?_ cI dX dY du fB ed bF fd cl bd bm;clear cI dX dY du fB ed bF fd cl bd bm;intro eA ez hf dP cY c3 et ew eC fW dL;go_wp2_with fail;rw [eC.o];go_wp2_with fail;refine dL.o.mono ?_;rintro e eo ⟨rfl,db,aP⟩;have hO:=aP.size;have bk:=aP.heap ez.o wA;have de:=aP.heap eA.o wA;have cu:=dP.o.keep aP (fun b cs t h _ _=>wA);have dx:=qf cY.o aP (fun b hb=>by have:=(zE cY.o b hb).1;omega);have dy:=qf c3.o aP (fun b hb=>by have:=(zE c3.o b hb).1;omega);have aT:=aP.heap et.o wA;have c8:Keep (fun b=>b<P) W3 eo:=ew.o.trans (aP.mono fun b _ h=>wA);obtain⟨v',cA,bp,bg,bO⟩:=cu.snoc ⟨(Y:Int),aA,aB⟩ _ _ dx dy (by rw [z.o];omega) wA;obtain⟨hY,_,bn,_⟩:=cu;have aw: ∀b,some b=Value.ownBlock (.slice cE s.steps.length cG)->P+1+1+1<=b:=fun b hb=>(zE bn b hb.symm).1;have aW:=bO.heap bk (fun e=>by have:=aw _ e;omega);have df:=bO.heap de (fun e=>by have:=aw _ e;omega);have dc:=db.keep bO (fun e=>by have:=aw _ e;omega);have c9:Keep (fun b=>b<P) W3 cA:=c8.trans (bO.mono fun b _ h e=>by have:=aw _ e;omega)
        obtain⟨ce,ch,rfl⟩:=bg.form;have aM:(s.steps++ [(⟨(Y:Int),aA,aB⟩:qfb)]).length=j+1:=by rw [zR,z.o];rfl
        rw [aM]at bp;rw [z.o]at bp;have t0:=qb aW 3 _ rfl;have iV:=qg aW 3;have t1:=qb bk 3 _ rfl;have v0:=qb aT 0 _ rfl;have v1:=qb aT 1 _ rfl;have v2:=qb aT 2 _ rfl;simp only [zD]at t0 t1 v0 v1 v2;have gz:=qe aT;have gD:=qe bk;have gE:=qe aW;obtain⟨ep,bl⟩:=ex (cA.setCell ⟨P,3,none⟩ (.slice ce (j+1) ch));have bP:Keep (fun b=>b≠P) cA ep:=by rw [←bl];exact kSc
        have hR:=bP.size;have hQ:=bO.size;have aX:=qaj 3 (.slice ce (j+1) ch) aW;rw [bl]at aX;simp only [yK,set_cons_succ,set_cons_zero]at aX;have dg:=bP.heap df wA;have dd:=dc.keep bP wA;have bh:=bg.keep bP (fun b cs t h _ _=>wA);rw [aM]at bh;have da:Keep (fun b=>b<P) W3 ep:=c9.trans (bP.mono fun b _ h=>wA);have fp:qbz ⟨⟨pr,args⟩,body⟩ l first (j+1)=⟨qdb s.K aB,s.taken.set Y true,qdc s.rows x aA l,s.steps++ [⟨(Y:Int),aA,aB⟩]⟩:=by
         show qii ⟨⟨pr,args⟩,body⟩ l (qhg ⟨⟨pr,args⟩,body⟩ l first j (qbz ⟨⟨pr,args⟩,body⟩ l first j)) (qbz ⟨⟨pr,args⟩,body⟩ l first j)=_;rw [dN.o,a9.o];unfold qii;simp only [Int.toNat_natCast];rw [eH.o,dS.o]
        have cm:=qqv (qb aX 3 _ rfl);rw [zD]at cm;have d4:=qqv (qb bW.o 3 _ rfl);rw [zD]at d4;clear bk de db bg dx dy aT c8 bO bn aw aW df dc c9 bP aP u0 fS fT aM;refine qdx ?_ bp bl aX dg dd bh da fp cm d4;clear bp bl aX dg dd bh da fp cm d4;intro dM dH dD dG dE cC dB bj dK eF;go_wp2_with (at_builtin;refine qbo (v:=.slice cE j cG) (u:=.slice (some ⟨eo.heap.size,0,none⟩) 1 1) (v':=.slice ce (j+1) ch) (w':=cA) rfl (.tmp 132) (.tmp 134) 245 rfl rfl rfl dM.o ?_);rw [dH.o];refine⟨⟨j+1,_,wA,by rw [bj.o],dB.o,dD.o,by rw [bj.o];exact dE.o,by rw [bj.o];exact dG.o,by rw [bj.o];exact cC.o,wA⟩,?_⟩;rw [dK.o,eF.o];omega
     ·obtain rfl:j=body.length:=by omega
      have x0:=qb aE 0 _ rfl;have x1:=qb aE 1 _ rfl;have x2:=qb aE 2 _ rfl;have ra:=hK.heap gg.o (show N+1<P from wA);have r0:=qb ra 0 _ rfl;have r1:=qb ra 1 _ rfl;have r2:=qb ra 2 _ rfl;have r3:=qb ra 3 _ rfl;have f0:=qg ra 0;have f1:=qg ra 1;have f2:=qg ra 2;have f3:=qg ra 3;simp only [zD]at x0 x1 x2 r0 r1 r2 r3;have fg:N+1<wr.heap.size:=qe ra;have gC:=gj.o;have fu:=gm.o.keep (gn.o.trans (hK.mono fun b _ h=>wA)) (fun b _ h=>h);clear a5 gC;refine qib ?_ hK aE hS hT bM a6 kw hs U ra fu;clear hK aE hS hT bM a6 kw hs U ra fu;intro eu bW cB dF b7 ar bb dN z h6 eM;go_wp2_with fail;refine yA (v:=.tuple #[.agg #[.string pr,.slice bz args.length bH,.slice bx body.length bG,.slice cE body.length cG],.int .i64 0]) (by simp [results,Tryz.results158,go_sem,r0,r1,r2,r3,fg]) rfl ?_;have kS:Keep (fun b=>b≠N+1) wr ((((wr.setCell ⟨N+1,0,none⟩ (.string pr)).setCell ⟨N+1,1,none⟩ (.slice bz args.length bH)).setCell ⟨N+1,2,none⟩ (.slice bx body.length bG)).setCell ⟨N+1,3,none⟩ (.slice cE body.length cG)):=
       (((kSc).trans (kSc)).trans (kSc)).trans (kSc)
      have ih:=q.o;rw [aR.o,dN.o];refine⟨_,_,_,rfl,⟨(eM.o.keep kS (fun b h _=>wA)).mono wA,?_⟩,bb.o.trans (kS.mono fun b _ h=>wA) |>.mono fun b _ h=>wA⟩;have:=b7.o;rw [z.o]at this;exact(this.keep kS (fun b cs t h _ _=>wA)).mono wA
   ·have aV:qjp ⟨⟨pr,args⟩,body⟩ l first=(qnt,ea):=by
     rw [dC.o,aj.o,aL,zI bK]
    have iz:(ea !=0)=true:=bne_iff_ne.2 bK;clear aL bK;refine hd2 ?_ aV ae;clear aV ae;intro aR b5;go_wp2_with fail;refine b5.o.mono ?_;rintro e W1 ⟨rfl,k1⟩;have gT:=k1.size;have aI:=k1.heap es.o ci;have r0:=qb aI 0 _ rfl;have r1:=qb aI 1 _ rfl;have r2:=qb aI 2 _ rfl;have r3:=qb aI 3 _ rfl;have f0:=qg aI 0;have f1:=qg aI 1;have f2:=qg aI 2;have f3:=qg aI 3;simp only [zD]at r0 r1 r2 r3;have ff:N+1<W1.heap.size:=wA
    clear aI;refine hd1 ?_ k1;clear k1;intro b9;go_wp2_with fail;refine yA (v:=.tuple #[.agg #[.string ⟨#[]⟩,.slice none 0 0,.slice none 0 0,.slice none 0 0],.int .i64 ea]) (by simp [results,Tryz.results158,go_sem,r0,r1,r2,r3,ff]) rfl ?_;rw [aR.o];have kS:Keep (fun b=>b≠N+1) W1 ((((W1.setCell ⟨N+1,0,none⟩ (.string ⟨#[]⟩)).setCell ⟨N+1,1,none⟩ (.slice none 0 0)).setCell ⟨N+1,2,none⟩ (.slice none 0 0)).setCell ⟨N+1,3,none⟩ (.slice none 0 0)):=
     (((kSc).trans (kSc)).trans (kSc)).trans (kSc)
    exact⟨_,_,_,rfl,qqu _ _,((bw.o.trans (b9.o.mono fun b _ h=>wA)).trans (kS.mono fun b _ h=>wA)).mono fun b _ h=>by have:=q.o;omega⟩
  ·have aV:qjp ⟨⟨pr,args⟩,body⟩ l first=(qnt,2):=by
    have hE:qd9 ⟨⟨pr,args⟩,body⟩ l true=2:=by unfold qd9;rw [Bool.or_true,zI rfl]
    rw [dC.o,aj.o,hE]
    rfl
   refine hd1 ?_ aV;clear aV;intro aR;go_wp2_with fail;refine yA (v:=.tuple #[.agg #[.string ⟨#[]⟩,.slice none 0 0,.slice none 0 0,.slice none 0 0],.int .i64 2]) (by simp [results,Tryz.results158,go_sem,r0,r1,r2,r3,ci]) rfl ?_;rw [aR.o];have kS:Keep (fun b=>b≠N+1) wc ((((wc.setCell ⟨N+1,0,none⟩ (.string ⟨#[]⟩)).setCell ⟨N+1,1,none⟩ (.slice none 0 0)).setCell ⟨N+1,2,none⟩ (.slice none 0 0)).setCell ⟨N+1,3,none⟩ (.slice none 0 0)):=
    (((kSc).trans (kSc)).trans (kSc)).trans (kSc)
   exact⟨_,_,_,rfl,qqu _ _,(bw.o.trans (kS.mono fun b _ h=>wA)).mono fun b _ h=>by have:=q.o;omega⟩
end Go.Proofs.P16
namespace Go.Proofs.S12
open Go.RowKit Go.Ink
attribute [local go_sem] Oper.semAt_some
def qjb (n0 Bx:Nat)(w0:World)(cs:Array Value)(W:World):Prop:=W.heap[Bx]?=some (.cells cs 79 (0,0))/\Keep (fun k=>k<n0) w0 W
theorem qxc (n0 Bx:Nat)(w0:World)(L:LitD)(sa:Value)(ab:qak n0 w0 sa L.atom.args)(aZ:n0<=w0.heap.size):
  qzm prog 204 #[.pointer (some ⟨Bx,0,none⟩)] (fun k=> #[(L.terms.getD k default).val]) L.terms.length (qjb n0 Bx w0 (qap L sa).toArray) (fun _=>False):=by
 intro l J Jx O0 W hl ak hV hJ aj hY h0;refine qbr Tryz.func204 rfl ?_;simp only [Tryz.ntmps204,size_toArray,length_cons,length_nil,Nat.reduceAdd,Nat.reduceSub,Array.replicate_succ,Array.replicate_zero,push_toArray,append_toArray,nil_append,cons_append];obtain⟨a,cap,rfl,aO,aN,am⟩:=id ab;obtain⟨hB,hK⟩:=id hV;have x:=qb hB;have c0:=x 0 _ rfl;have c1:=x 1 _ rfl;have c2:=x 2 _ rfl;simp only [zD,Nat.add_zero]at c0 c1 c2;have HJ:=zg hJ;have aT:=zg aj;have HY:=zg hY;have HV:=zg hV;have HB:=zg hB;have HK:=zg hK;have HO:=zg ak;have HE:=zg am;have HS:=zg ab;clear hJ aj hY hV hB hK ak x am ab;by_cases s:L.kind=1∨L.kind=2
 ·have m:L.terms=L.atom.args:=by simp [LitD.terms,s]
  have ao:((L.kind==1)=true)∨((L.kind==1)=false/\(L.kind==2)=true):=by rcases s with h |h<;>simp [h]
  have y:=zg m;clear s m;rcases ao with an |⟨an,aA⟩
  all_goals
   gi_wp2;gi_loopw [14] (fun i wr=> ∃(k:Nat) (O:Nat->Prop),k<=L.atom.args.length/\i=.int .i64 k/\J k O wr/\qjb n0 Bx w0 (qap L (.slice a L.atom.args.length cap)).toArray wr/\W.heap.size<=wr.heap.size) (fun i _=>L.atom.args.length-(intOf i).toNat)
   case atStart=>exact⟨0,O0,wA,rfl,h0,HV.out,wA⟩
   case round=>
    obtain⟨k,O,hk,rfl,ai,al,aC⟩:=hrel;have ah:=zg ai;have z:=zg al;clear ai al h0 c0 c1 c2;by_cases U:k<L.atom.args.length
    ·obtain⟨t,m⟩: ∃t,L.atom.args[k]?=some t:=⟨_,zB U⟩;have ap:L.terms.getD k default=t:=by rw [y.out];simp [List.getD,m]
     obtain⟨b,off,rfl,hb,e1,e2⟩:=HE.out k t m;have d1:=z.out.2.cell e1 hb;have d2:=z.out.2.cell e2 hb;obtain⟨fn,tmps,assign,body,hy,R⟩:=HY.out k O (wr.alloc (.cells #[.bool t.var,.string t.text] 77)) (by rw [y.out];exact U)
      (HJ.out _ _ _ _ ah.out kAl) ⟨(Keep.alloc (fun _=>True) _ _).heap z.out.1 wF,z.out.2.trans kAl⟩ (by simp;omega)
     simp only [ap,TermD.val]at hy;have HR:=zg R;clear e1 e2 m ap R;gi_wp2;refine⟨rfl,HR.out.mono ?_⟩;rintro e Y ⟨O',u,v,d,g,(⟨rfl,c⟩ |⟨rfl,c⟩)⟩
     all_goals
      have av:=zg d;have q:=zg g;have p:=zg c;have aa:=d.size;simp at aa;clear d g c u v HR hy;gi_wp2
     ·go_roundw
      case rel=>exact⟨k+1,O',wA,by go_num,p.out,q.out,wA⟩
      case measure=>simp [intOf];omega
     ·refine yA (yt rfl _ _ _) rfl ?_;exact⟨⟨_,rfl⟩,wA,q.out,O',.inr ⟨k,by rw [y.out];exact U,p.out⟩⟩
    ·gi_wp2
     go_end0
     obtain rfl:k=L.atom.args.length:=wA
     exact⟨⟨_,rfl⟩,aC,z.out,O,.inl (by rw [y.out];exact ah.out)⟩
 ·have an:(L.kind==1)=false:=by simp;omega
  have aA:(L.kind==2)=false:=by simp;omega
  by_cases h3:L.kind=3
  ·have aB:(L.kind==3)=true:=by simp [h3]
   have m:L.terms= [L.left,L.right]:=by simp [LitD.terms,h3]
   have hB:=HB.out;have x:=qb hB;have c3:=x 3 _ rfl;have c4:=x 4 _ rfl;simp only [zD]at c3 c4;obtain⟨fn,tmps,assign,body,hy,R⟩:=HY.out 0 O0 W (by rw [m];simp) h0 HV.out (zG _);simp only [m,getD_cons_zero,TermD.val]at hy;have HR:=zg R;have y:=zg m;clear s h3 m R hB x;gi_wp2;refine⟨rfl,HR.out.mono ?_⟩;rintro e Y ⟨O',u,v,d,g,(⟨rfl,c⟩ |⟨rfl,c⟩)⟩
   ·have x:=qb g.1;have c5:=x 5 _ rfl;have c6:=x 6 _ rfl;simp only [zD]at c5 c6;obtain⟨fn,tmps,assign,body,hy,R⟩:=HY.out 1 O' Y (by rw [y.out];simp) c g d.size;simp only [y.out,getD_cons_succ,getD_cons_zero,TermD.val]at hy;have HR:=zg R;have av:=zg d;have aa:=d.size;clear d g c u v R x;gi_wp2;refine⟨rfl,HR.out.mono ?_⟩;rintro e Y2 ⟨O2,u,v,d,g,c⟩;have q:=zg g;have a0:=d.size;have p:Hid (∃O',J L.terms.length O' Y2∨ ∃k,k<L.terms.length/\Jx k O' Y2):=zg (by
     rw [y.out];rcases c with ⟨_,h⟩ |⟨_,h⟩
     ·exact⟨O2,.inl h⟩
     ·exact⟨O2,.inr ⟨1,wC,h⟩⟩)
    rcases c with ⟨rfl,c⟩ |⟨rfl,c⟩
    all_goals
     clear u v d g c;gi_wp2
     go_end0
     exact⟨⟨_,rfl⟩,wA,q.out,p.out⟩
   ·have q:=zg g;have p:=zg c;have aa:=d.size;clear d g c u v;gi_wp2
    go_end0
    exact⟨⟨_,rfl⟩,wA,q.out,O',.inr ⟨0,by rw [y.out];simp,p.out⟩⟩
  ·have aB:(L.kind==3)=false:=by simp [h3]
   have m:L.terms= []:=by simp [LitD.terms,s,h3]
   have y:=zg m;clear s h3 m;gi_wp2
   go_end0
   exact⟨⟨_,rfl⟩,zG _,HV.out,O0,.inl (by rw [y.out];exact h0)⟩
theorem q3n (L:LitD)(b:Value)(w:World):Calls prog 155 #[.agg (qap L b).toArray] w fun e w'=>
  e=.returned (.func (.func 204) #[] #[.pointer (some ⟨w.heap.size,0,none⟩)])/\w'=w.alloc (.cells (qap L b).toArray 79):=by
 unfold qap
 go_enter Tryz.func155,Tryz.ntmps155
 go_wp2;go_ret;exact⟨rfl,rfl⟩
end Go.Proofs.S12
