/- Parts of the proof. -/
import Derived.Test.YtnponcjnahicnaaGreatDoorHdToKp
import Derived.OrdersHeld
set_option linter.unusedSimpArgs false
set_option linter.unusedVariables false
open List(find?_append find?_cons foldl_cons getElem?_cons_succ getElem?_take length_cons map_toArray nil_append size_toArray take_append_of_le_length take_left take_succ_eq_append_getElem take_take)
namespace Go.Ink
open Go.RowKit
instance reflBytes:ReflBEq ByteArray:=⟨fun {a}=>(MapKept.bytes_beq a a).2 rfl⟩
instance lawfulBytes:LawfulBEq ByteArray:=⟨fun {a b} h=>(MapKept.bytes_beq a b).1 h⟩
structure TermD where
 var:Bool
 text:ByteArray
 deriving DecidableEq,Inhabited
structure qfx where
 pred:ByteArray
 args:List TermD
 deriving DecidableEq,Inhabited
structure LitD where
 kind:Int
 atom:qfx
 left:TermD
 right:TermD
 deriving DecidableEq,Inhabited
structure RuleD where
 head:qfx
 body:List LitD
 deriving DecidableEq,Inhabited
def TermD.val (t:TermD):Value:=.agg #[.bool t.var,.string t.text]
def SliceIn {α:Type}(n:Nat)(w:World)(sz:Nat)(E:World->Nat->Nat->α->Prop)(v:Value)(xs:List α):Prop:=
 ∃a cap,v=.slice a xs.length cap/\xs.length<=1073741824/\(xs.length<=cap/\cap<=maxLen)/\ ∀k x,xs[k]?=some x-> ∃b off,a=some ⟨b,off,none⟩/\b<n/\E w b (off+k*sz) x
def TermE (w:World)(b o:Nat)(t:TermD):Prop:=w.cell? ⟨b,o,none⟩=some (.bool t.var)/\w.cell? ⟨b,o+1,none⟩=some (.string t.text)
abbrev qad (n:Nat)(w:World)(v:Value)(ts:List TermD):Prop:=SliceIn n w 2 TermE v ts
def qu (L:LitD)(sa:Value):List Value:= [.int .i64 L.kind,.string L.atom.pred,sa,.bool L.left.var,.string L.left.text,.bool L.right.var,.string L.right.text]
def CellsE (w:World)(b o:Nat)(vs:List Value):Prop:= ∀j v,vs[j]?=some v->w.cell? ⟨b,o+j,none⟩=some v
def LitE (n:Nat)(w:World)(b o:Nat)(L:LitD):Prop:= ∃sa,CellsE w b o (qu L sa)/\qad n w sa L.atom.args
abbrev qfj (n:Nat)(w:World)(v:Value)(ls:List LitD):Prop:=SliceIn n w 7 (LitE n) v ls
def LitD.terms (L:LitD):List TermD:=if L.kind=1∨L.kind=2 then L.atom.args else if L.kind=3 then [L.left,L.right] else []
theorem SliceIn.mono {α:Type}{n:Nat}{w w':World}{sz:Nat}{E c:World->Nat->Nat->α->Prop}{v:Value}{xs:List α}(h:SliceIn n w sz E v xs)
  (e: ∀b o x,b<n->E w b o x->c w' b o x):SliceIn n w' sz c v xs:=by
 obtain⟨a,cap,l,j,g,i⟩:=h;refine⟨a,cap,l,j,g,fun k x m=>?_⟩;obtain⟨b,off,f,d,h⟩:=i k x m;exact⟨b,off,f,d,e _ _ _ d h⟩
theorem SliceIn.wider {α:Type}{n d:Nat}{w w':World}{sz:Nat}{E c:World->Nat->Nat->α->Prop}{v:Value}{xs:List α}(h:SliceIn n w sz E v xs)(q:n<=d)
  (e: ∀b o x,b<n->E w b o x->c w' b o x):SliceIn d w' sz c v xs:=by
 obtain⟨a,cap,m,l,i,j⟩:=h;refine⟨a,cap,m,l,i,fun k x p=>?_⟩;obtain⟨b,off,f,g,h⟩:=j k x p;exact⟨b,off,f,xz,e _ _ _ g h⟩
theorem TermE.keep {n:Nat}{w w':World}{b o:Nat}{t:TermD}(h:TermE w b o t)(c:b<n)(hK:Keep (fun k=>k<n) w w'):TermE w' b o t:=
 ⟨hK.cell h.1 c,hK.cell h.2 c⟩
theorem qq {n:Nat}{w w':World}{v:Value}{ts:List TermD}(h:qad n w v ts)(hK:Keep (fun k=>k<n) w w'):qad n w' v ts:=
 h.mono fun _ _ _ b h=>h.keep b hK
theorem qfm {n b:Nat}{w:World}{v:Value}{ts:List TermD}(h:qad n w v ts)(c:n<=b):qad b w v ts:=
 SliceIn.wider h c fun _ _ _ _ h=>h
theorem CellsE.keep {n:Nat}{w w':World}{b o:Nat}{vs:List Value}(h:CellsE w b o vs)(c:b<n)(hK:Keep (fun k=>k<n) w w'):CellsE w' b o vs:=
 fun j v d=>hK.cell (h j v d) c
theorem LitE.keep {n:Nat}{w w':World}{b o:Nat}{L:LitD}(h:LitE n w b o L)(d:b<n)(hK:Keep (fun k=>k<n) w w'):LitE n w' b o L:=by
 obtain⟨f,e,c⟩:=h;exact⟨f,e.keep d hK,qq c hK⟩
theorem LitE.wider {n c:Nat}{w:World}{b o:Nat}{L:LitD}(h:LitE n w b o L)(f:n<=c):LitE c w b o L:=by
 obtain⟨g,e,d⟩:=h;exact⟨g,e,qfm d f⟩
theorem qid {n:Nat}{w w':World}{v:Value}{ls:List LitD}(h:qfj n w v ls)(hK:Keep (fun k=>k<n) w w'):qfj n w' v ls:=
 h.mono fun _ _ _ b h=>h.keep b hK
theorem qwc {n c:Nat}{w:World}{v:Value}{ls:List LitD}(h:qfj n w v ls)(b:n<=c):qfj c w v ls:=
 SliceIn.wider h b fun _ _ _ _ h=>h.wider b
theorem qb {w:World}{B t:Nat}{vs:Array Value}{b:Nat×Nat}(h:w.heap[B]?=some (.cells vs t b)):CellsE w B 0 vs.toList:=by
 intro j v c;simp [World.cell?,h]at*;exact c
theorem qbb {w:World}{B t:Nat}{v:Value}(h:w.heap[B]?=some (.cells #[v] t (0,0))):w.cell? ⟨B,0,none⟩=some v:=by simp [World.cell?,h]
theorem qg {w:World}{B t:Nat}{vs:Array Value}(h:w.heap[B]?=some (.cells vs t (0,0)))(o:Nat):w.frozen? ⟨B,o,none⟩=false:=by simp [World.frozen?,h]
def qrz (w:World):Value->Int
 |.pointer (some q)=>intOf ((w.cell? q).getD undef)
 |_=>0
theorem qqa {w:World}{q:Addr}{k:IntKind}{n:Int}(h:w.cell? q=some (.int k n)):qrz w (.pointer (some q))=n:=by simp [qrz,h,intOf]
theorem qh (w:World)(o:Obj):(w.alloc o).heap[w.heap.size]?=some o:=xM w o
theorem qec {w:World}{k:Nat}{o:Obj}(h:w.heap[k]?=some o)(o':Obj):(w.alloc o').heap[k]?=some o:=(Keep.alloc (fun _=>True) w o').heap h trivial
def LitD.uses (L:LitD):List ByteArray:=(L.terms.filter (·.var)).map (·.text)
def RuleD.headLit (r:RuleD):LitD:=⟨1,r.head,⟨false,⟨#[]⟩⟩,⟨false,⟨#[]⟩⟩⟩
def RuleD.lits (r:RuleD):List LitD:=r.headLit::r.body
def qcp:List LitD->Nat->List (Int×ByteArray)
 | [],_=> []
 |L::ls,i=>(L.uses.map fun t=>((i:Int)-1,t))++qcp ls (i+1)
def RuleD.stands (r:RuleD):List (Int×ByteArray):=qcp r.lits 0
def RuleD.off (r:RuleD)(i:Nat):Nat:=(qcp (r.lits.take i) 0).length
theorem qjr (a b:List LitD)(i:Nat):qcp (a++b) i=qcp a i++qcp b (i+a.length):=by
 induction a generalizing i with
 |nil=>simp [qcp]
 |cons L a ih=>simp [qcp,ih,xF,Nat.add_comm 1]
theorem q1b {r:RuleD}{i:Nat}{L:LitD}(h:r.lits[i]?=some L):r.off (i+1)=r.off i+L.uses.length:=by
 unfold RuleD.off;have b:i<r.lits.length:=(zA.1 h).1;have c:r.lits[i]=L:=(zA.1 h).2;rw [take_succ_eq_append_getElem b,qjr,zR,c];simp [qcp]
theorem q3g (r:RuleD):r.off r.lits.length=r.stands.length:=by simp [RuleD.off,RuleD.stands]
theorem qyk {r:RuleD}{i c:Nat}{L:LitD}(h:r.lits[i]?=some L)(e:c<L.uses.length):r.stands[r.off i+c]?=some ((i:Int)-1,L.uses[c]):=by
 unfold RuleD.off RuleD.stands;have d:i<r.lits.length:=(zA.1 h).1;have g:r.lits[i]=L:=(zA.1 h).2;have j:r.lits=r.lits.take i++(L::r.lits.drop (i+1)):=by
  rw [←g,←zr d,yu]
 conv=>lhs;rw [j,qjr]
 have b:(r.lits.take i).length=i:=by simp;omega
 simp only [qcp,b,zD,take_append_of_le_length (Nat.le_of_eq b.symm),take_take,Nat.min_self];have f:(List.take i (List.take i r.lits++L::List.drop (i+1) r.lits))=List.take i r.lits:=by
  rw [take_append_of_le_length (Nat.le_of_eq b.symm),take_take,Nat.min_self]
 try rw [f]
 rw [yG xz,Nat.add_sub_cancel_left,yQ (by simpa using e)];simp [e]
def LitD.cnt (L:LitD)(k:Nat):Nat:=((L.terms.take k).filter (·.var)).length
theorem q1c (L:LitD):L.cnt 0=0:=by simp [LitD.cnt]
theorem q3h (L:LitD):L.cnt L.terms.length=L.uses.length:=by simp [LitD.cnt,LitD.uses]
theorem q1d {L:LitD}{k:Nat}{t:TermD}(h:L.terms[k]?=some t):L.cnt (k+1)=L.cnt k+if t.var then 1 else 0:=by
 unfold LitD.cnt;have b:k<L.terms.length:=(zA.1 h).1;have d:L.terms[k]=t:=(zA.1 h).2;rw [take_succ_eq_append_getElem b,yS,d];by_cases c:t.var=true
 ·simp [ye,c]
 ·simp [ye,Bool.eq_false_iff.2 c]
theorem qvi {L:LitD}{k:Nat}{t:TermD}(h:L.terms[k]?=some t)(e:t.var=true):L.uses[L.cnt k]?=some t.text:=by
 unfold LitD.uses LitD.cnt;have b:k<L.terms.length:=(zA.1 h).1;have c:L.terms[k]=t:=(zA.1 h).2;have d:L.terms=L.terms.take k++(t::L.terms.drop (k+1)):=by
  rw [←c,←zr b,yu]
 conv=>lhs;rw [d]
 rw [yS,zm,ye,zI e,take_append_of_le_length (by simp;omega),take_take,Nat.min_self];rw [yG wB];simp
def qa2 (l:List ByteArray):List ByteArray:=l.foldl (fun acc x=>if x∈acc then acc else acc++ [x]) []
theorem qhl (l:List ByteArray)(x:ByteArray):qa2 (l++ [x])=if x∈qa2 l then qa2 l else qa2 l++ [x]:=by
 unfold qa2;rw [yk];rfl
theorem qlv (l:List ByteArray):(qa2 l).length<=l.length:=by
 have h: ∀(l acc:List ByteArray),(l.foldl (fun acc x=>if x∈acc then acc else acc++ [x]) acc).length<=acc.length+l.length:=by
  intro l
  induction l with
  |nil=>simp
  |cons x l ih=>
   intro acc;simp only [foldl_cons,length_cons];refine zW (ih _) ?_;split<;>simp<;>omega
 simpa [qa2]using h l []
theorem q1e: ∀(l acc:List ByteArray),(acc++l).Nodup->l.foldl (fun acc x=>if x∈acc then acc else acc++ [x]) acc=acc++l:=by
 intro l
 induction l with
 |nil=>simp
 |cons x l ih=>
  intro acc h;have b:x∉acc:=fun b=>by
   rw [xV]at h;exact h.2.2 x b x wB rfl
  rw [foldl_cons,zF b,ih]
  ·simp
  ·simpa using h
theorem qjz (l:List ByteArray):(qa2 l).Nodup:=by
 have h: ∀(l acc:List ByteArray),acc.Nodup->(l.foldl (fun acc x=>if x∈acc then acc else acc++ [x]) acc).Nodup:=by
  intro l
  induction l with
  |nil=>simp
  |cons x l ih=>
   intro acc d;rw [foldl_cons];split
   ·exact ih _ d
   ·refine ih _ ?_;rw [xV];exact⟨d,wB,fun a f b c e=>by simp at c;subst c;subst e;contradiction⟩
 exact h l [] wB
theorem qwd (l:List ByteArray):qa2 (qa2 l)=qa2 l:=by
 have:=q1e (qa2 l) [] (by simpa using qjz l)
 simpa [qa2]using this
theorem qqb (l:List ByteArray)(x:ByteArray):x∈qa2 l↔x∈l:=by
 have h: ∀(l acc:List ByteArray),x∈l.foldl (fun acc x=>if x∈acc then acc else acc++ [x]) acc↔x∈acc∨x∈l:=by
  intro l
  induction l with
  |nil=>simp
  |cons y l ih=>
   intro acc;simp only [foldl_cons,ih,zt];split
   ·constructor
    ·rintro(h |h)
     ·exact .inl h
     ·exact .inr (.inr h)
    ·rintro(h |h |h)
     ·exact .inl h
     ·subst h;exact .inl (by assumption)
     ·exact .inr h
   ·simp [or_assoc]
 simpa [qa2]using h l []
theorem q3i {α:Type}{p:α->Bool}{l:List α}{k:Nat}{s:α}(h: ∀x,x∈l.take k->p x=false)(d:l[k]?=some s)(f:p s=true):l.find? p=some s:=by
 have c:=(zA.1 d).1;have e:=(zA.1 d).2;have b:l=l.take k++(s::l.drop (k+1)):=by rw [←e,←zr c,yu]
 rw [b,find?_append,ym.2 (fun x g=>by simp [h x g]),find?_cons,f]
 rfl
def RuleD.names (r:RuleD):List ByteArray:=r.stands.map (·.2)
def RuleIn (n:Nat)(w:World)(sh sb:Value)(r:RuleD):Prop:=qad n w sh r.head.args/\qfj n w sb r.body
theorem RuleIn.keep {n:Nat}{w w':World}{sh b:Value}{r:RuleD}(h:RuleIn n w sh b r)(hK:Keep (fun k=>k<n) w w'):RuleIn n w' sh b r:=⟨qq h.1 hK,qid h.2 hK⟩
theorem RuleIn.wider {n c:Nat}{w:World}{sh d:Value}{r:RuleD}(h:RuleIn n w sh d r)(b:n<=c):RuleIn c w sh d r:=⟨qfm h.1 b,qwc h.2 b⟩
def qf2 (w:World)(b o:Nat)(s:ByteArray):Prop:=w.cell? ⟨b,o,none⟩=some (.string s)
abbrev qal (n:Nat)(w:World)(v:Value)(ss:List ByteArray):Prop:=SliceIn n w 1 qf2 v ss
theorem qlw {n:Nat}{w w':World}{v:Value}{ts:List ByteArray}(h:qal n w v ts)(hK:Keep (fun k=>k<n) w w'):qal n w' v ts:=
 h.mono fun _ _ _ b h=>hK.cell h b
theorem qgi {n b:Nat}{w:World}{v:Value}{ts:List ByteArray}(h:qal n w v ts)(c:n<=b):qal b w v ts:=
 SliceIn.wider h c fun _ _ _ _ h=>h
def qe8 (w:World)(b o:Nat)(s:Int):Prop:=w.cell? ⟨b,o,none⟩=some (.int .i64 s)
abbrev qan (n:Nat)(w:World)(v:Value)(ss:List Int):Prop:=SliceIn n w 1 qe8 v ss
theorem qed {α:Type}{w:World}{base:Nat}{e:TypeId}{sz:Nat}{v:Value}{n:Nat}{xs:List Value}(h:w.ownsRow base e sz v n xs)(c:List α)(q:n=c.length)(l:c.length<=1073741824)
  (E:World->Nat->Nat->α->Prop) (m: ∀b k d,c[k]?=some d->(∀j,j<sz->w.cell? ⟨b,k*sz+j,none⟩=xs[k*sz+j]?)->E w b (k*sz) d):SliceIn w.heap.size w sz E v c:=by
 subst q;obtain⟨s,h⟩:=h;rcases h with ⟨rfl,h0⟩ |⟨g,cap,cur,rfl,hbg,hg,hc,hm,hs,ht⟩
 ·refine⟨none,0,by rw [h0],l,by simp [h0,maxLen],fun k x f=>?_⟩;have:=(zA.1 f).1;omega
 ·refine⟨_,cap,rfl,l,⟨hc,hm⟩,fun k x f=>⟨g,0,rfl,qe hg,?_⟩⟩;rw [zD];refine m _ _ _ f (fun j r=>?_);have p:=(zA.1 f).1;have i:k*sz+j<c.length*sz:=by
   have:(k+1)*sz<=c.length*sz:=yV _ p;rw [xH]at this;omega
  subst ht;simp [World.cell?,hg,getElem?_take,i]
theorem qcc {w:World}{base:Nat}{e:TypeId}{v:Value}{n:Nat}{ss:List ByteArray}(h:w.ownsRow base e 1 v n (ss.map .string))(c:ss.length<=1073741824):qal w.heap.size w v ss:=
 qed h ss (by have:=h.1;simpa using this.symm) c qf2 fun b k d g f=>by
  have:=f 0 xz;simp only [yA,Nat.add_zero]at this⊢;rw [qf2,this];simp [g]
theorem qd5 {w:World}{base:Nat}{e:TypeId}{v:Value}{n:Nat}{ss:List Int}(h:w.ownsRow base e 1 v n (ss.map (.int .i64)))(c:ss.length<=1073741824):qan w.heap.size w v ss:=
 qed h ss (by have:=h.1;simpa using this.symm) c qe8 fun b k d g f=>by
  have:=f 0 xz;simp only [yA,Nat.add_zero]at this⊢;rw [qe8,this];simp [g]
theorem qf {w w':World}{base:Nat}{e:TypeId}{sz:Nat}{v:Value}{n:Nat}{xs:List Value}{C:Nat->Prop}(h:w.ownsRow base e sz v n xs)(hK:Keep C w w')(c: ∀b,v.ownBlock=some b->C b):w'.ownsRow base e sz v n xs:=by
 refine⟨h.1,?_⟩;rcases h.2 with hn |⟨g,cap,cur,rfl,hb,hgg,rest⟩
 ·exact .inl hn
 ·exact .inr ⟨g,cap,cur,rfl,hb,hK.heap hgg (c g rfl),rest⟩
theorem qas {α:Type}(f:α->List Value)(sz:Nat)(b: ∀a,(f a).length=sz): ∀(ps:List α) (k j:Nat) (p:α),ps[k]?=some p->j<sz->(ps.flatMap f)[k*sz+j]?=(f p)[j]?:=by
 intro ps
 induction ps with
 |nil=>intro k j p h;simp at h
 |cons a ps ih=>
  intro k j p h c;cases k with
  |zero=>
   simp at h;subst h;simp only [yE,Nat.zero_mul,zD];rw [yQ (by rw [b];exact c)]
  |succ k=>
   simp only [getElem?_cons_succ]at h;simp only [yE];have e:(k+1)*sz+j=sz+(k*sz+j):=by rw [xH];omega
   rw [e,yG (by rw [b];omega),b,Nat.add_sub_cancel_left];exact ih k j p h c
theorem qa1 {α:Type}(f:α->List Value)(sz:Nat)(b: ∀a,(f a).length=sz)(ps:List α):(ps.flatMap f).length=ps.length*sz:=by
 induction ps with
 |nil=>simp
 |cons a ps ih=>simp [b,ih,xH];omega
theorem qr0 {n0:Nat}{w:World}{base:Nat}{e:TypeId}{v:Value}{n:Nat}{ps:List (LitD×Value)}(h:w.ownsRow base e 7 v n (ps.flatMap fun p=>qu p.1 p.2))(m:ps.length<=1073741824)(r:n0<=w.heap.size)
  (c: ∀p,p∈ps->qad n0 w p.2 p.1.atom.args):qfj w.heap.size w v (ps.map (·.1)):=
 qed h (ps.map (·.1)) (by have:=h.1;rw [qa1 _ 7 (fun _=>rfl)] at this;simp;omega) (by simpa using m) (LitE w.heap.size) fun b k d f q=>by
  rw [zP]at f;obtain⟨p,i,rfl⟩:=xN.1 f;refine⟨p.2,fun j u l=>?_,qfm (c p (zH i)) r⟩;have g:j<7:=(zA.1 l).1;rw [q j g,qas _ 7 (fun _=>rfl) ps k j p i g];exact l
theorem qnn (r:RuleD):r.names=r.headLit.uses++r.body.flatMap LitD.uses:=by
 have h: ∀(ls:List LitD) (i:Nat),(qcp ls i).map (·.2)=ls.flatMap LitD.uses:=by
  intro ls
  induction ls with
  |nil=>simp [qcp]
  |cons L ls ih=>intro i;simp [qcp,ih,Function.comp_def]
 rw [RuleD.names,RuleD.stands,h,RuleD.lits,yE]
def qb0 (body:List LitD):List ByteArray:=qa2 ((body.filter fun L=>L.kind==1).flatMap LitD.uses)
def SetIn (w:World)(b:Nat)(s:List ByteArray):Prop:=
 ∃es clock,w.heap[b]?=some (.map es clock)/\es.toList.map (fun e=>(e.key,e.val))=s.map fun k=>(Value.string k,Value.bool true)
theorem SetIn.keep {w w':World}{b:Nat}{s:List ByteArray}{C:Nat->Prop}(h:SetIn w b s)(hK:Keep C w w')(g:C b):SetIn w' b s:=by
 obtain⟨d,c,e,f⟩:=h;exact⟨d,c,hK.heap e g,f⟩
theorem qlx (w:World):SetIn (w.alloc (.map #[] 0)) w.heap.size []:=⟨#[],0,qh w _,rfl⟩
theorem SetIn.lt {w:World}{b:Nat}{s:List ByteArray}(h:SetIn w b s):b<w.heap.size:=by
 obtain⟨e,c,d,f⟩:=h;exact qe d
theorem qm3 (k:ByteArray): ∀(s:List ByteArray) (es:List MapEntry) (i:Nat),es.map (fun e=>(e.key,e.val))=s.map (fun k=>(Value.string k,Value.bool true))->
  ∃r,Instr.findNow .string (.string k) es i=some r/\(r=none/\k∉s∨ ∃j,r=some (i+j,.bool true)/\s[j]?=some k):=by
 intro s
 induction s with
 |nil=>intro es i h;cases es with
  |nil=>exact⟨none,rfl,.inl ⟨rfl,wB⟩⟩
  |cons e es=>simp at h
 |cons a s ih=>intro es i h;cases es with
  |nil=>simp at h
  |cons e es=>
   simp only [yW,List.cons.injEq,Prod.mk.injEq]at h;obtain⟨⟨c,d⟩,f⟩:=h;by_cases b:k=a
   ·subst b;refine⟨some (i,.bool true),?_,.inr ⟨0,rfl,rfl⟩⟩;simp [Instr.findNow,Instr.sameNow,c,d]
   ·obtain⟨r,l,g⟩:=ih es (i+1) f;refine⟨r,?_,?_⟩
    ·have:(k==a)=false:=by simpa using b
     simp [Instr.findNow,Instr.sameNow,c,this,l]
    ·rcases g with ⟨rfl,hn⟩ |⟨j,rfl,hj⟩
     ·exact .inl ⟨rfl,by simp [b,hn]⟩
     ·exact .inr ⟨j+1,by simp;omega,by simpa using hj⟩
section
variable {P : Program} {T K E : TypeId} (hT : P.underlying T = some (.map K E)) (hK : P.underlying K = some .string)
include hT hK
theorem qh1 (i: ∀w,(zeroValue E).run P w=.ok (.bool false) w){w:World}{b:Nat}{s:List ByteArray}(h:SetIn w b s)(k:ByteArray):
  (Instr.lookup T (.map (some b)) (.string k) false).run P w=.ok (.bool (decide (k∈s))) w:=by
 obtain⟨d,c,f,g⟩:=h;obtain⟨r,q,p⟩:=qm3 k s d.toList 0 g;have m:(getObj b).run P w=.ok (.map d c) w:=by simp [getObj,Sem.run,f]
 have l: ∀e n,(Instr.checkKey e (n+1) K (.string k)).run P w=.ok () w:=by intro e n;simp [Instr.checkKey,yp,yl hK,Result.andThen]
 simp only [Instr.lookup,yp,yl hT,Result.andThen,m,Sem.run_pure,l,Instr.findKey,yl hK,q];rcases p with ⟨rfl,hn⟩ |⟨j,rfl,hj⟩
 ·simp [yp,i,Result.andThen,hn]
 ·have:k∈s:=zH hj;simp [yp,Result.andThen,this]
theorem qh2 {w:World}{b:Nat}{s:List ByteArray}(h:SetIn w b s)(k:ByteArray):
  ∃w',(Instr.mapUpdate T (.map (some b)) (.string k) (.bool true)).run P w=.ok () w'/\SetIn w' b (if k∈s then s else s++ [k])/\Keep (fun j=>j≠b) w w'/\w'.heap.size=w.heap.size:=by
 obtain⟨g,c,v,p⟩:=h;obtain⟨r,z,R⟩:=qm3 k s g.toList 0 p;have y:(getObj b).run P w=.ok (.map g c) w:=by simp [getObj,Sem.run,v]
 have f: ∀o,(setObj b o).run P w=.ok () (w.putObj b o):=by intro o;simp [setObj,Sem.run,v,World.putObj]
 have x: ∀e n,(Instr.checkKey e (n+1) K (.string k)).run P w=.ok () w:=by intro e n;simp [Instr.checkKey,yp,yl hK,Result.andThen]
 rcases R with ⟨rfl,hn⟩ |⟨j,rfl,hj⟩
 ·refine⟨w.putObj b (.map (g.push {key:=.string k,val:=.bool true,born:=c}) (c+1)),?_,?_,Keep.putObj _ _ _ wB,wB⟩
  ·simp [Instr.mapUpdate,yp,yl hT,Result.andThen,y,x,Instr.findKey,yl hK,z,f]
  ·exact⟨_,_,yy (qe v),by simp [hn,p]⟩
 ·have u:k∈s:=zH hj;have t:(g[j]?).map (·.key)=some (.string k):=by
   have d:=yM (fun l=>l[j]?) p;simp only [zP,hj,Option.map_some]at d;cases q:g[j]? with
   |none=>simp [q] at d
   |some e=>simp [q] at d;simp [d.1]
  have m:(Instr.keyThatStays (.string k) (.string k)).run P w=.ok (.string k) w:=by simp [Instr.keyThatStays,Instr.sameBits]
  refine⟨w.putObj b (.map (g.modify j fun e=>{e with key:=.string k,val:=.bool true}) c),?_,?_,Keep.putObj _ _ _ wB,wB⟩
  ·simp [Instr.mapUpdate,yp,yl hT,Result.andThen,y,x,Instr.findKey,yl hK,z,f,t,m]
  ·refine⟨_,_,yy (qe v),?_⟩;rw [zI u,←p];apply xW;intro i;simp only [zP,xg,Array.getElem?_modify];by_cases hi:j=i
   ·subst hi;have d:=yM (fun l=>l[j]?) p;simp only [zP,hj,Option.map_some]at d;cases q:g[j]? with
    |none=>simp [q] at d
    |some e=>simp [q] at d;simp [d]
   ·simp [hi]
end
def qb2 (P:Program)(t e:TypeId)(size bytes:Nat):Prop:=
 P.underlying t=some (.slice e)/\0<size/\bytes<=4096/\ ∃i z,P.info? e=some i/\i.zero=some z/\i.size=size/\i.bytes=bytes/\z.cells.size=size
theorem qcl {P:Program}{t e:TypeId}{z:Value}{c b:Nat}(h:P.underlying t=some (.slice e))(hi:(P.info? e).map (fun i=>(i.zero,i.size,i.bytes))=some (some z,c,b))(m:z.cells.size=c)(l:0<c)(k:b<=4096):qb2 P t e c b:=by
 obtain⟨i,d,f,g,j⟩:=info_parts hi;exact⟨h,l,k,i,z,d,f,g,j,m⟩
theorem qah (w:World)(o:Obj)(k:Nat):(w.alloc o).heap[k]?=if k=w.heap.size then some o else w.heap[k]?:=by
 show(w.heap.push o)[k]?=_;rw [Array.getElem?_push]
theorem qgj {w:World}{B t:Nat}{v:Value}{c:Nat×Nat}(u:Value)(h:w.heap[B]?=some (.cells #[v] t c)):(w.setCell ⟨B,0,none⟩ u).heap[B]?=some (.cells #[u] t c):=by
 obtain⟨b,d⟩:=Array.getElem?_eq_some_iff.1 h;show(w.heap.modify B _)[B]?=_;rw [xQ (by rw [Array.size_modify];exact b),Array.getElem_modify_self,d]
 rfl
theorem qz {w:World}{B t:Nat}{c:Array Value}{d:Nat×Nat}(i:Nat)(u:Value)(h:w.heap[B]?=some (.cells c t d)):(w.setCell ⟨B,i,none⟩ u).heap[B]?=some (.cells (c.setIfInBounds i u) t d):=by
 obtain⟨b,e⟩:=Array.getElem?_eq_some_iff.1 h;show(w.heap.modify B _)[B]?=_;rw [xQ (by rw [Array.size_modify];exact b),Array.getElem_modify_self,e]
 rfl
variable {P : Program}
theorem app {t e:TypeId}{r U:Nat}(hE:qb2 P t e r U)(ty:TypeId){w:World}{base:Nat}{v:Value}{n:Nat}{xs:List Value}(f:w.ownsRow base e r v n xs)
  (a:Addr) (m c:Nat) (d:List Value) (hl:d.length=m*r) (l: ∀j u,d[j]?=some u->w.cell? (a.add j)=some u) (h1: ∀u∈d,u.oneCell'=true)
  (au:0<m) (ak:n+m<=8589934592) (X:base<=w.heap.size):
  ∃v' w',(Builtin.append_ #[t,t] ty #[v,.slice (some a) m c]).run P w=.ok v' w'/\w'.ownsRow base e r v' (n+m) (xs++d)/\Keep (fun b=>some b≠v.ownBlock) w w'/\
   ∃g cap,v'=.slice (some ⟨g,0,none⟩) (n+m) cap/\(v.ownBlock=some g∨w.heap.size<=g)/\g<w'.heap.size:=by
 obtain⟨ht,av,ah,i,z,hi,hz,aa,y,am⟩:=hE;subst aa;subst y;have R:(n+m)*i.bytes<=140737488355328:=zW (Nat.mul_le_mul ak ah) wC;have ag:n+m<=maxLen:=by simp only [maxLen];omega
 have q:(xs++d).length=(n+m)*i.size:=by rw [zR,f.1,hl,xH]
 have x: ∀(h:Nat),h<n+m-> ∀(row:Option Nat),
   (w.drew.alloc (.cells (xs.toArray++d.toArray++Builtin.zeroCells z.cells (grownCap w (n+m) h e-(n+m))) e)).ownsRow base e i.size
    (.slice (some ⟨w.heap.size,0,none⟩) (n+m) (grownCap w (n+m) h e)) (n+m) (xs++d)/\
   w.grownBy (w.drew.alloc (.cells (xs.toArray++d.toArray++Builtin.zeroCells z.cells (grownCap w (n+m) h e-(n+m))) e)) row:=by
  intro h ho row;have ai:=grownCap_ge w (n+m) h e;have Y:grownCap w (n+m) h e<=maxLen:=grownCap_le_maxLen w (n+m) h e ag;refine⟨⟨q,.inr ⟨w.heap.size,_,_,rfl,X,xM w.drew _,ai,Y,?_,?_⟩⟩,⟨rfl,rfl,rfl,wB,fun k hk _=>xL w.drew _ k hk⟩⟩
  ·simp only [Array.size_append,size_toArray,size_zeroCells,am,f.1,hl,←xH]
   congr 1
   omega
  ·simp only [Array.toList_append,yq];rw [←yq,←q];exact take_left
 rcases f.2 with ⟨rfl,rfl⟩ |⟨g,cap,cur,rfl,hbg,hg,hnc,Y,hcs,htake⟩
 ·have hx:xs= []:=yn (by simpa using f.1);subst hx;have hr:=run_append_nil (P:=P) w t ty e i z ht hi hz a m c d hl l xz xz (by have hb:=R;simp only [zD] at hb;omega);have s:=x 0 xz (Value.ownBlock (.slice none 0 0));simp only [zD,nil_append,Array.empty_append]at s⊢;exact⟨_,_,hr,s.1,Keep.of_grown s.2,_,_,rfl,.inr (zG _),wB⟩
 ·by_cases p:n+m<=cap
  ·have ad:n*i.size+d.length<=cur.size:=by rw [hl,hcs,←xH];exact yV _ p
   have hr:=run_append_room (P:=P) w t ty e i ht hi g n cap cur hg a m c d hl l h1 p ad;have hG:w.grownBy (w.setRow g (cur.toList.take (n*i.size)++d++cur.toList.drop (n*i.size+d.length)).toArray) (some g):=⟨rfl,rfl,rfl,wB,fun k _ hk=>setRow_other w g k _ (fun e=>hk (by simp [e]))⟩;refine⟨_,_,hr,⟨q,.inr ⟨g,cap,_,rfl,hbg,setRow_heap w g cur _ e _ hg,p,Y,?_,?_⟩⟩,Keep.of_grown hG,g,cap,rfl,.inl rfl,?_⟩
   ·simp only [size_toArray,zR,yB,xu,Array.length_toList];omega
   ·rw [htake,←q];exact take_left
   ·exact zk (qe hg) hG.size
  ·have holds: ∀j u,xs[j]?=some u->w.cell? ((⟨g,0,none⟩:Addr).add j)=some u:=f.cells (g:=g) rfl;have hr:=run_append_grow (P:=P) w t ty e i z ht hi hz ⟨g,0,none⟩ n cap xs f.1 holds a m c d hl l xz xz (growslice_fits xz R);have s:=x cap xz (Value.ownBlock (.slice (some ⟨g,0,none⟩) n cap));exact⟨_,_,hr,s.1,Keep.of_grown s.2,_,_,rfl,.inr (zG _),wB⟩
theorem qdd {t e:TypeId}{d f:Nat}(s:qb2 P t e d f)(q:TypeId){w:World}{base:Nat}{v:Value}{n:Nat}{xs:List Value}(i:w.ownsRow base e d v n xs)
  (c:List Value) (U:c.length=d) (r: ∀u∈c,u.oneCell'=true) (m:n+1<=8589934592) (k:base<=w.heap.size):
  ∃v' w',(Builtin.append_ #[t,t] q #[v,.slice (some ⟨w.heap.size,0,none⟩) 1 1]).run P (w.alloc (.cells c.toArray e))=.ok v' w'/\w'.ownsRow base e d v' (n+1) (xs++c)/\Keep (fun b=>some b≠v.ownBlock) w w'/\
   ∃g cap,v'=.slice (some ⟨g,0,none⟩) (n+1) cap/\(v.ownBlock=some g∨w.heap.size<=g)/\g<w'.heap.size:=by
 have p:wD w (w.alloc (.cells c.toArray e)):=kAl;obtain⟨v',w',z,ho,hK,g,cap,R,x,l⟩:=app s q (qf i p (fun _ _=>wE)) ⟨w.heap.size,0,none⟩ 1 1 c xz (fun j u y=>by
   have:=qb (qh w (.cells c.toArray e)) j u (by simpa using y);simp only [zD]at this;rw [show((⟨w.heap.size,0,none⟩:Addr).add j)=⟨w.heap.size,j,none⟩ from by unfold Addr.add;split<;>simp_all];exact this) r xz m (by simp;omega)
 refine⟨v',w',z,ho,p.mt.trans hK,g,cap,R,x.imp id (fun h=>?_),l⟩;simp at h;omega
theorem qby {F:Fence}{n:Nat}{w w':World}{ops:Array Oper}{rest:List Oper}{o:Oper}{a:Act}{Q:Exit->Act->World->Prop}{v u v':Value}
  (f:o.guard=none) (s x:Operand) (t:TypeId) (b:o.op=Op.call {callee:=Callee.builtin Builtin.append,args:= #[s,x],argTypes:= #[t,t]}) (hs:a.eval s=v) (hx:a.eval x=u)
  (hrun:(Builtin.append_ #[t,t] o.type #[v,u]).run P w=.ok v' w') (hK:wpListIn F n P ops Q rest (a.put o.dst v') w'):wpListIn F n P ops Q (o::rest) a w:=by
 refine wpListIn_plain f fun K d=>?_;unfold Oper.wpIn;refine⟨?_,?_⟩
 ·simp [Oper.about,b,resolve,Target.leads,Sem.run_pure]
 ·rw [Oper.semAt_plain F _ _ (by rw [b];intro c e;cases e)];simp [execOp,b,resolve,invoke,builtin,hs,hx,hrun,Result.andThen];exact d _ _ hK
theorem qcd {w w':World}{ops:Array Oper}{rest:List Oper}{o:Oper}{a:Act}{Q:Exit->Act->World->Prop}{v u v':Value}
  (d:o.guard=none) (s x:Operand) (t:TypeId) (c:o.op=Op.call {callee:=Callee.builtin Builtin.append,args:= #[s,x],argTypes:= #[t,t]}) (hs:a.eval s=v) (hx:a.eval x=u)
  (hrun:(Builtin.append_ #[t,t] o.type #[v,u]).run P w=.ok v' w') (hK:wpList P ops Q rest (a.put o.dst v') w'):wpList P ops Q (o::rest) a w:=by
 refine wpList_plain d fun K b=>?_;unfold Oper.wp execOp;simp only [c,resolve,invoke,builtin,yp,Sem.run_pure,Result.andThen_ok,map_toArray,yW,xi,hs,hx,hrun];exact b _ _ hK
variable {P : Program}
theorem qly {t e:TypeId}{s X:Nat}(hE:qb2 P t e s X)(ty:TypeId){w:World}{base:Nat}{v:Value}{n:Nat}{xs:List Value}(f:w.ownsRow base e s v n xs)
  (a:Addr) (m c:Nat) (d:List Value) (hl:d.length=m*s) (p: ∀j u,d[j]?=some u->w.cell? (a.add j)=some u) (h1: ∀u∈d,u.oneCell'=true)
  (av:0<m) (al:n+m<=8589934592) (Y:base<=w.heap.size):
  ∃v' w',(Builtin.append_ #[t,t] ty #[v,.slice (some a) m c]).run P w=.ok v' w'/\w'.ownsRow base e s v' (n+m) (xs++d)/\
   ∃g cap,v'=.slice (some ⟨g,0,none⟩) (n+m) cap/\(v.ownBlock=some g∨w.heap.size<=g)/\g<w'.heap.size/\Keep (fun b=>b≠g) w w':=by
 obtain⟨ht,aw,ai,i,z,hi,hz,ab,R,an⟩:=hE;subst ab;subst R;have U:(n+m)*i.bytes<=140737488355328:=zW (Nat.mul_le_mul al ai) wC;have ah:n+m<=maxLen:=by simp only [maxLen];omega
 have r:(xs++d).length=(n+m)*i.size:=by rw [zR,f.1,hl,xH]
 have y: ∀(l:Nat),l<n+m-> ∀(row:Option Nat),
   (w.drew.alloc (.cells (xs.toArray++d.toArray++Builtin.zeroCells z.cells (grownCap w (n+m) l e-(n+m))) e)).ownsRow base e i.size
    (.slice (some ⟨w.heap.size,0,none⟩) (n+m) (grownCap w (n+m) l e)) (n+m) (xs++d)/\
   w.grownBy (w.drew.alloc (.cells (xs.toArray++d.toArray++Builtin.zeroCells z.cells (grownCap w (n+m) l e-(n+m))) e)) row:=by
  intro l ho row;have aj:=grownCap_ge w (n+m) l e;have aa:grownCap w (n+m) l e<=maxLen:=grownCap_le_maxLen w (n+m) l e ah;refine⟨⟨r,.inr ⟨w.heap.size,_,_,rfl,Y,xM w.drew _,aj,aa,?_,?_⟩⟩,⟨rfl,rfl,rfl,wB,fun k hk _=>xL w.drew _ k hk⟩⟩
  ·simp only [Array.size_append,size_toArray,size_zeroCells,an,f.1,hl,←xH]
   congr 1
   omega
  ·simp only [Array.toList_append,yq];rw [←yq,←r];exact take_left
 rcases f.2 with ⟨rfl,rfl⟩ |⟨g,cap,cur,rfl,hbg,hg,hnc,aa,hcs,htake⟩
 ·have hx:xs= []:=yn (by simpa using f.1);subst hx;have hr:=run_append_nil (P:=P) w t ty e i z ht hi hz a m c d hl p xz xz (by have hb:=U;simp only [zD] at hb;omega);have x:=y 0 xz none;simp only [zD,nil_append,Array.empty_append]at x⊢;exact⟨_,_,hr,x.1,_,_,rfl,.inr (zG _),wB,(Keep.of_grown x.2).mono fun _ _ _=>wB⟩
 ·by_cases q:n+m<=cap
  ·have ae:n*i.size+d.length<=cur.size:=by rw [hl,hcs,←xH];exact yV _ q
   have hr:=run_append_room (P:=P) w t ty e i ht hi g n cap cur hg a m c d hl p h1 q ae;have hG:w.grownBy (w.setRow g (cur.toList.take (n*i.size)++d++cur.toList.drop (n*i.size+d.length)).toArray) (some g):=⟨rfl,rfl,rfl,wB,fun k _ hk=>setRow_other w g k _ (fun e=>hk (by simp [e]))⟩;refine⟨_,_,hr,⟨r,.inr ⟨g,cap,_,rfl,hbg,setRow_heap w g cur _ e _ hg,q,aa,?_,?_⟩⟩,g,cap,rfl,.inl rfl,?_,(Keep.of_grown hG).mono fun _ _ h=>by simpa using h⟩
   ·simp only [size_toArray,zR,yB,xu,Array.length_toList];omega
   ·rw [htake,←r];exact take_left
   ·exact zk (qe hg) hG.size
  ·have holds: ∀j u,xs[j]?=some u->w.cell? ((⟨g,0,none⟩:Addr).add j)=some u:=f.cells (g:=g) rfl;have hr:=run_append_grow (P:=P) w t ty e i z ht hi hz ⟨g,0,none⟩ n cap xs f.1 holds a m c d hl p xz xz (growslice_fits xz U);have x:=y cap xz none;exact⟨_,_,hr,x.1,_,_,rfl,.inr (zG _),wB,(Keep.of_grown x.2).mono fun _ _ _=>wB⟩
theorem que {t e:TypeId}{f d:Nat}(k:qb2 P t e f d)(r:TypeId)(w:World)(b:Option Addr)(n cap:Nat)(h:n<=cap)(a:Option Addr)(c:Nat):
  (Builtin.append_ #[t,t] r #[.slice b n cap,.slice a 0 c]).run P w=.ok (.slice b n cap) w:=by
 obtain⟨p,m,l,i,z,hi,s,j,g,q⟩:=k;cases a<;>cases b<;>simp [Builtin.append_,yl p,sizeOf,typeInfo,hi,Builtin.lenOf,Builtin.firstCells,loadCells,loadCellsFrom,h,storeCells]
theorem qi0 {t e:TypeId}{f k:Nat}(X:qb2 P t e f k)(R:TypeId){w:World}{base:Nat}{v:Value}{n:Nat}{xs:List Value}(i:w.ownsRow base e f v n xs)
  (a:Option Addr) (m c:Nat) (d:List Value) (Y:d.length=m*f) (q: ∀b,a=some b-> ∀j u,d[j]?=some u->w.cell? (b.add j)=some u) (hn:a=none->m=0) (h1: ∀u∈d,u.oneCell'=true)
  (z:n+m<=8589934592) (l:base<=w.heap.size):
  ∃v' w',(Builtin.append_ #[t,t] R #[v,.slice a m c]).run P w=.ok v' w'/\w'.ownsRow base e f v' (n+m) (xs++d)/\(∀g,v'.ownBlock=some g->v.ownBlock=some g∨w.heap.size<=g)/\Keep (fun b=>v'.ownBlock≠some b) w w':=by
 by_cases U:m=0
 ·subst U;have:d= []:=yn (by simpa using Y);subst this;rw [yO];have r: ∃b s cap,v=.slice b s cap/\s<=cap:=by
   rcases i.2 with ⟨e1,e2⟩ |⟨g,cap,cur,e1,e2,e3,e4,e5,_⟩
   ·exact⟨none,0,0,e1,zG _⟩
   ·exact⟨_,_,_,e1,e4⟩
  obtain⟨b,s,cap,rfl,y⟩:=r;exact⟨_,_,que X R w b s cap y a c,i,fun g x=>.inl x,Keep.refl _ _⟩
 ·cases a with
  |none=>exact absurd (hn rfl) U
  |some ad=>
   obtain⟨v',w',hr,ho,g,cap,r,x,ab,hK⟩:=qly X R i ad m c d Y (q ad rfl) h1 xz z l;refine⟨v',w',hr,ho,fun g' p=>?_,hK.mono fun b _ h e=>h ?_⟩
   ·rw [r]at p;simp only [Value.ownBlock,yb]at p;subst p;exact x
   ·rw [r,e];rfl
section
variable {P : Program} {ops : Array Oper} {Q : Exit -> Act -> World -> Prop} {md : Region.Mode} {S : World -> Prop} {late : List Nat}
def qcz (P:Program)(md:Region.Mode)(ops:Array Oper)(Q:Exit->Act->World->Prop)(S:World->Prop)(late:List Nat):Nat->Array Bool->Act->World->Prop
 |0,listed,a,w=>Region.ready md ops listed= []/\Q .normal a w
 |fuel+1,listed,a,w=>
  (Region.ready md ops listed= []->Q .normal a w)/\
  ∀i∈Region.ready md ops listed,wpOp P ops Q i (fun a' w'=>(late.contains i=false->S w')/\qcz P md ops Q S late fuel (listed.setIfInBounds i true) a' w') a w
theorem qoi: ∀(fuel:Nat) (listed:Array Bool) (a:Act) (w:World),qcz P md ops Q S late fuel listed a w->wpAny P md ops Q fuel listed a w
 |0,_,_,_,h=>h
 |fuel+1,_,_,_,h=>⟨h.1,fun i hi=>wpOp_mono (fun a' w' h'=>qoi fuel _ a' w' h'.2) (h.2 i hi)⟩
def qee (md:Region.Mode)(ops:Array Oper)(late:List Nat)(i:Nat):Bool:=
 late.all fun j=>match ops[j]? with
  |some oj=>oj.after.any fun e=>Region.binds md e&&e.on==i
  |none=>false
theorem qr1 {i:Nat}{u:Oper}{v:Value}(hi:ops[i]?=some u)(q: ∀(j:Nat) (o:Oper) cs b,ops[j]?=some o->o.op≠.select cs b)
  (hQ: ∀c a w,Q (.panic c) (a.put u.dst v) w->Q (.panic c) a w) (s:qee md ops late i=true):
  ∀(fuel:Nat) (listed:Array Bool) (a:Act) (w:World),
   (∀j oj,ops[j]?=some oj->j≠i->listed.getD j true=false->(∀e∈oj.after,Region.binds md e=true->e.on≠i)->u.apart ops oj=true)->
   i∈Region.ready md ops listed->YieldsIf P ops S u v a->S w->
   qcz P md ops Q S late fuel (listed.setIfInBounds i true) (a.put u.dst v) w->qcz P md ops Q S late (fuel+1) listed a w:=by
 intro fuel
 induction fuel with
 |zero=>
  intro listed a w _ t hy x H;refine⟨fun h=>(by rw [h] at t;cases t),fun j hj=>?_⟩;by_cases d:j=i
  ·subst d;exact hy.wpOp hi x ⟨fun _=>x,H⟩
  ·have:=ready_mono hj d;rw [H.1]at this;cases this
 |succ fuel ih=>
  intro listed a w f t hy x H;refine⟨fun h=>(by rw [h] at t;cases t),fun j hj=>?_⟩;by_cases d:j=i
  ·subst d;exact hy.wpOp hi x ⟨fun _=>x,H⟩
  ·have r:=H.2 j (ready_mono hj d);obtain⟨m,oj,l,y⟩:=mem_ready.1 hj;have p: ∀e∈oj.after,Region.binds md e=true->e.on≠i:=fun e he z ae=>by
    have r:=y e he z;have h0:=(mem_ready.1 t).1;rw [ae]at r;rcases yX i listed.size with h' |h'
    ·simp [h']at h0 r;rw [h0]at r;cases r
    ·simp [Array.getElem?_eq_none h']at r
   have ag:late.contains j=false:=by
    cases hc:late.contains j with
    |false=>rfl
    |true=>
     have hm:j∈late:=by simpa using hc
     have:=yL.1 s j hm;rw [l]at this;simp only at this;obtain⟨e,he,z⟩:=Array.any_eq_true'.1 this;simp only [zV,xB]at z;exact absurd z.2 (p e he z.1)
   have h2:=wpOp_putIf l (f j oj l d m p) (fun cs b=>q i u cs b hi) (fun cs b=>q j oj cs b l) hQ hy r;have g: ∀k X,ops[k]?=some X->k≠i->(listed.setIfInBounds j true).getD k true=false->
     (∀e∈X.after,Region.binds md e=true->e.on≠i)->u.apart ops X=true:=fun k X hk af U ah=>by
    refine f k X hk af ?_ ah;by_cases R:j=k
    ·subst R;exact m
    ·rw [getD_set_ne true R]at U;exact U
   refine wpOp_mono (fun a' w' Y=>⟨Y.2.1,ih (listed.setIfInBounds j true) a' w' g (ready_mono t (Ne.symm d)) Y.1 (Y.2.1 ag) ?_⟩) h2;rw [Array.setIfInBounds_comm _ _ d];exact Y.2.2
theorem qax {i:Nat}{e:Oper}{v:Value}{d:Nat}{b:Array Bool}{a:Act}{w:World}(hi:ops[i]?=some e)
  (m:Region.noSelect ops=true) (j:Region.free md ops b i=true) (l:(Region.ready md ops b).contains i=true) (k:qee md ops late i=true)
  (f: ∀c a w,Q (.panic c) (a.put e.dst v) w->Q (.panic c) a w) (g:S w) (p:YieldsIf P ops S e v a)
  (h:qcz P md ops Q S late d (b.setIfInBounds i true) (a.put e.dst v) w):qcz P md ops Q S late (d+1) b a w:=
 qr1 hi (Region.noSelect_spec m) f k d b a w (Region.free_spec hi j) (by simpa using l) p g h
theorem qhe {i:Nat}{m:Oper}{g:Nat}{b:Array Bool}{a:Act}{w:World}(hi:ops[i]?=some m)(t:Region.ready md ops b= [i])
  (h: ∀K:Act->World->Prop,(∀a' w',(late.contains i=false->S w')->qcz P md ops Q S late g (b.setIfInBounds i true) a' w'->K a' w')->wpList P ops (Exit.then K Q) [m] a w):
  qcz P md ops Q S late (g+1) b a w:=by
 refine⟨fun q=>(by rw [t] at q;cases q),fun j s=>?_⟩;rw [t]at s;have l:j=i:=by simpa using s
 subst l;have c:=h (fun a' w'=>(late.contains j=false->S w')/\qcz P md ops Q S late g (b.setIfInBounds j true) a' w') (fun a' w' x y=>⟨x,y⟩);unfold wpOp;rw [hi];unfold wpList at c;simp only at c⊢;split
 ·rename_i hw;rw [zI hw]at c;rcases c with c |c
  ·refine .inl ?_;unfold Oper.wp at c⊢;generalize (execOp a.eval m).run P w=r at c⊢;cases r with
   |ok n w'=>
    cases n<;>simp only [Oper.upon] at c⊢
    case value u=>exact c
    case skip=>exact c
    case defer d=>exact c
    case enter f args=>exact Calls.mono c fun e p k=>by cases e<;>exact k
    case row row args=>exact Rows.mono c fun u p k=>k
   |halt x w'=>cases x<;>simp only [Oper.upon] at c⊢;exact c
  ·exact .inr c
 ·rename_i hw;rw [zF hw]at c;exact c
theorem qbq {c:Nat}{b:Array Bool}{a:Act}{w:World}(d:Region.ready md ops b= [])(h:Q .normal a w):qcz P md ops Q S late c b a w:=by
 cases c with
 |zero=>exact⟨d,h⟩
 |succ n=>exact⟨fun _=>h,fun i hi=>(by rw [d] at hi;cases hi)⟩
theorem qba {c:Nat}{a:Act}{w:World}(b:P.follows .mixedOrders=true)(S:World->Prop)(late:List Nat)
  (h:qcz P .any ops Q S late ops.size (Array.replicate ops.size false) a w.drew):(Code.region c ops true).wp P Q a w:=
 wp_region_any b (qoi _ _ _ _ h)
end
end Go.Ink
