/- Parts of the proof. -/
import Derived.WalkKit
import Derived.Lib.Hide
import Derived.Test.YtnponcjnahicnaaGreatHdToKp
set_option linter.unusedSimpArgs false
set_option linter.unusedVariables false
open List(append_assoc append_nil drop_eq_getElem_cons eq_nil_of_length_eq_zero ext_getElem? filter_append filter_cons find?_append find?_cons find?_eq_none flatMap_cons foldl_append foldl_cons getElem?_append_left getElem?_append_right getElem?_cons_succ getElem?_map getElem?_take length_append length_cons length_drop length_take map_append map_cons map_nil map_toArray mem_cons mem_of_getElem? nil_append nodup_append size_toArray take_append_drop take_append_of_le_length take_left take_succ_eq_append_getElem take_take)
namespace Go.Ink
open Go.RowKit
instance reflBytes:ReflBEq ByteArray:=⟨fun {a}=>(MapKept.bytes_beq a a).2 rfl⟩
instance lawfulBytes:LawfulBEq ByteArray:=⟨fun {a b} h=>(MapKept.bytes_beq a b).1 h⟩
structure TermD where
 var:Bool
 text:ByteArray
 deriving DecidableEq,Inhabited
structure qed where
 pred:ByteArray
 args:List TermD
 deriving DecidableEq,Inhabited
structure LitD where
 kind:Int
 atom:qed
 left:TermD
 right:TermD
 deriving DecidableEq,Inhabited
structure RuleD where
 head:qed
 body:List LitD
 deriving DecidableEq,Inhabited
def TermD.val (t:TermD):Value:=.agg #[.bool t.var,.string t.text]
def SliceIn {α:Type}(n:Nat)(w:World)(sz:Nat)(E:World->Nat->Nat->α->Prop)(v:Value)(xs:List α):Prop:=
 ∃a cap,v=.slice a xs.length cap/\xs.length<=1073741824/\(xs.length<=cap/\cap<=maxLen)/\ ∀k x,xs[k]?=some x-> ∃b off,a=some ⟨b,off,none⟩/\b<n/\E w b (off+k*sz) x
def TermE (w:World)(b o:Nat)(t:TermD):Prop:=w.cell? ⟨b,o,none⟩=some (.bool t.var)/\w.cell? ⟨b,o+1,none⟩=some (.string t.text)
abbrev qaj (n:Nat)(w:World)(v:Value)(ts:List TermD):Prop:=SliceIn n w 2 TermE v ts
def qaf (L:LitD)(sa:Value):List Value:= [.int .i64 L.kind,.string L.atom.pred,sa,.bool L.left.var,.string L.left.text,.bool L.right.var,.string L.right.text]
def CellsE (w:World)(b o:Nat)(vs:List Value):Prop:= ∀j v,vs[j]?=some v->w.cell? ⟨b,o+j,none⟩=some v
def LitE (n:Nat)(w:World)(b o:Nat)(L:LitD):Prop:= ∃sa,CellsE w b o (qaf L sa)/\qaj n w sa L.atom.args
abbrev qf3 (n:Nat)(w:World)(v:Value)(ls:List LitD):Prop:=SliceIn n w 7 (LitE n) v ls
def LitD.terms (L:LitD):List TermD:=if L.kind=1∨L.kind=2 then L.atom.args else if L.kind=3 then [L.left,L.right] else []
theorem SliceIn.mono {α:Type}{n:Nat}{w w':World}{sz:Nat}{E E':World->Nat->Nat->α->Prop}{v:Value}{xs:List α}(h:SliceIn n w sz E v xs)
  (hE: ∀b o x,b<n->E w b o x->E' w' b o x):SliceIn n w' sz E' v xs:=by
 obtain⟨a,cap,hv,hl,hc,he⟩:=h;refine⟨a,cap,hv,hl,hc,fun k x hx=>?_⟩;obtain⟨b,off,ha,hb,h⟩:=he k x hx;exact⟨b,off,ha,hb,hE _ _ _ hb h⟩
theorem SliceIn.wider {α:Type}{n n':Nat}{w w':World}{sz:Nat}{E E':World->Nat->Nat->α->Prop}{v:Value}{xs:List α}(h:SliceIn n w sz E v xs)(hn:n<=n')
  (hE: ∀b o x,b<n->E w b o x->E' w' b o x):SliceIn n' w' sz E' v xs:=by
 obtain⟨a,cap,hv,hl,hc,he⟩:=h;refine⟨a,cap,hv,hl,hc,fun k x hx=>?_⟩;obtain⟨b,off,ha,hb,h⟩:=he k x hx;exact⟨b,off,ha,by omega,hE _ _ _ hb h⟩
theorem TermE.keep {n:Nat}{w w':World}{b o:Nat}{t:TermD}(h:TermE w b o t)(hb:b<n)(hK:Keep (fun k=>k<n) w w'):TermE w' b o t:=
 ⟨hK.cell h.1 hb,hK.cell h.2 hb⟩
theorem qas {n:Nat}{w w':World}{v:Value}{ts:List TermD}(h:qaj n w v ts)(hK:Keep (fun k=>k<n) w w'):qaj n w' v ts:=
 h.mono fun _ _ _ hb h=>h.keep hb hK
theorem qii {n n':Nat}{w:World}{v:Value}{ts:List TermD}(h:qaj n w v ts)(hn:n<=n'):qaj n' w v ts:=
 SliceIn.wider h hn fun _ _ _ _ h=>h
theorem CellsE.keep {n:Nat}{w w':World}{b o:Nat}{vs:List Value}(h:CellsE w b o vs)(hb:b<n)(hK:Keep (fun k=>k<n) w w'):CellsE w' b o vs:=
 fun j v hj=>hK.cell (h j v hj) hb
theorem LitE.keep {n:Nat}{w w':World}{b o:Nat}{L:LitD}(h:LitE n w b o L)(hb:b<n)(hK:Keep (fun k=>k<n) w w'):LitE n w' b o L:=by
 obtain⟨sa,hc,ha⟩:=h;exact⟨sa,hc.keep hb hK,qas ha hK⟩
theorem LitE.wider {n n':Nat}{w:World}{b o:Nat}{L:LitD}(h:LitE n w b o L)(hn:n<=n'):LitE n' w b o L:=by
 obtain⟨sa,hc,ha⟩:=h;exact⟨sa,hc,qii ha hn⟩
theorem qim {n:Nat}{w w':World}{v:Value}{ls:List LitD}(h:qf3 n w v ls)(hK:Keep (fun k=>k<n) w w'):qf3 n w' v ls:=
 h.mono fun _ _ _ hb h=>h.keep hb hK
theorem qxo {n n':Nat}{w:World}{v:Value}{ls:List LitD}(h:qf3 n w v ls)(hn:n<=n'):qf3 n' w v ls:=
 SliceIn.wider h hn fun _ _ _ _ h=>h.wider hn
theorem qb {w:World}{B t:Nat}{vs:Array Value}{fr:Nat×Nat}(h:w.heap[B]?=some (.cells vs t fr)):CellsE w B 0 vs.toList:=by
 intro j v hj;simp [World.cell?,h]at*;exact hj
theorem qbn {w:World}{B t:Nat}{v:Value}(h:w.heap[B]?=some (.cells #[v] t (0,0))):w.cell? ⟨B,0,none⟩=some v:=by simp [World.cell?,h]
theorem qf {w:World}{B t:Nat}{vs:Array Value}(h:w.heap[B]?=some (.cells vs t (0,0)))(o:Nat):w.frozen? ⟨B,o,none⟩=false:=by simp [World.frozen?,h]
def qs1 (w:World):Value->Int
 |.pointer (some q)=>intOf ((w.cell? q).getD undef)
 |_=>0
theorem qra {w:World}{q:Addr}{k:IntKind}{n:Int}(h:w.cell? q=some (.int k n)):qs1 w (.pointer (some q))=n:=by simp [qs1,h,intOf]
theorem qh (w:World)(o:Obj):(w.alloc o).heap[w.heap.size]?=some o:=World.alloc_heap_new w o
theorem qfm {w:World}{k:Nat}{o:Obj}(h:w.heap[k]?=some o)(o':Obj):(w.alloc o').heap[k]?=some o:=(Keep.alloc (fun _=>True) w o').heap h trivial
def LitD.uses (L:LitD):List ByteArray:=(L.terms.filter (·.var)).map (·.text)
def RuleD.headLit (r:RuleD):LitD:=⟨1,r.head,⟨false,⟨#[]⟩⟩,⟨false,⟨#[]⟩⟩⟩
def RuleD.lits (r:RuleD):List LitD:=r.headLit::r.body
def qcu:List LitD->Nat->List (Int×ByteArray)
 | [],_=> []
 |L::ls,i=>(L.uses.map fun t=>((i:Int)-1,t))++qcu ls (i+1)
def RuleD.stands (r:RuleD):List (Int×ByteArray):=qcu r.lits 0
def RuleD.off (r:RuleD)(i:Nat):Nat:=(qcu (r.lits.take i) 0).length
theorem qka (a b:List LitD)(i:Nat):qcu (a++b) i=qcu a i++qcu b (i+a.length):=by
 induction a generalizing i with
 |nil=>simp [qcu]
 |cons L a ih=>simp [qcu,ih,Nat.add_assoc,Nat.add_comm 1]
theorem q23 {r:RuleD}{i:Nat}{L:LitD}(h:r.lits[i]?=some L):r.off (i+1)=r.off i+L.uses.length:=by
 unfold RuleD.off;have hlt:i<r.lits.length:=(List.getElem?_eq_some_iff.1 h).1;have he:r.lits[i]=L:=(List.getElem?_eq_some_iff.1 h).2;rw [take_succ_eq_append_getElem hlt,qka,length_append,he];simp [qcu]
theorem q5c (r:RuleD):r.off r.lits.length=r.stands.length:=by simp [RuleD.off,RuleD.stands]
theorem qzs {r:RuleD}{i c:Nat}{L:LitD}(h:r.lits[i]?=some L)(hc:c<L.uses.length):r.stands[r.off i+c]?=some ((i:Int)-1,L.uses[c]):=by
 unfold RuleD.off RuleD.stands;have hlt:i<r.lits.length:=(List.getElem?_eq_some_iff.1 h).1;have he:r.lits[i]=L:=(List.getElem?_eq_some_iff.1 h).2;have hs:r.lits=r.lits.take i++(L::r.lits.drop (i+1)):=by
  rw [←he,←drop_eq_getElem_cons hlt,take_append_drop]
 conv=>lhs;rw [hs,qka]
 have hl:(r.lits.take i).length=i:=by simp;omega
 simp only [qcu,hl,Nat.zero_add,take_append_of_le_length (Nat.le_of_eq hl.symm),take_take,Nat.min_self];have h2:(List.take i (List.take i r.lits++L::List.drop (i+1) r.lits))=List.take i r.lits:=by
  rw [take_append_of_le_length (Nat.le_of_eq hl.symm),take_take,Nat.min_self]
 try rw [h2]
 rw [getElem?_append_right (by omega),Nat.add_sub_cancel_left,getElem?_append_left (by simpa using hc)];simp [hc]
def LitD.cnt (L:LitD)(k:Nat):Nat:=((L.terms.take k).filter (·.var)).length
theorem q24 (L:LitD):L.cnt 0=0:=by simp [LitD.cnt]
theorem q5d (L:LitD):L.cnt L.terms.length=L.uses.length:=by simp [LitD.cnt,LitD.uses]
theorem q25 {L:LitD}{k:Nat}{t:TermD}(h:L.terms[k]?=some t):L.cnt (k+1)=L.cnt k+if t.var then 1 else 0:=by
 unfold LitD.cnt;have hlt:k<L.terms.length:=(List.getElem?_eq_some_iff.1 h).1;have he:L.terms[k]=t:=(List.getElem?_eq_some_iff.1 h).2;rw [take_succ_eq_append_getElem hlt,filter_append,he];by_cases hv:t.var=true
 ·simp [filter_cons,hv]
 ·simp [filter_cons,Bool.eq_false_iff.2 hv]
theorem qwr {L:LitD}{k:Nat}{t:TermD}(h:L.terms[k]?=some t)(hv:t.var=true):L.uses[L.cnt k]?=some t.text:=by
 unfold LitD.uses LitD.cnt;have hlt:k<L.terms.length:=(List.getElem?_eq_some_iff.1 h).1;have he:L.terms[k]=t:=(List.getElem?_eq_some_iff.1 h).2;have hs:L.terms=L.terms.take k++(t::L.terms.drop (k+1)):=by
  rw [←he,←drop_eq_getElem_cons hlt,take_append_drop]
 conv=>lhs;rw [hs]
 rw [filter_append,map_append,filter_cons,if_pos hv,take_append_of_le_length (by simp;omega),take_take,Nat.min_self];rw [getElem?_append_right (by simp)];simp
def qa9 (l:List ByteArray):List ByteArray:=l.foldl (fun acc x=>if x∈acc then acc else acc++ [x]) []
theorem qhs (l:List ByteArray)(x:ByteArray):qa9 (l++ [x])=if x∈qa9 l then qa9 l else qa9 l++ [x]:=by
 unfold qa9;rw [foldl_append];rfl
theorem qml (l:List ByteArray):(qa9 l).length<=l.length:=by
 have h: ∀(l acc:List ByteArray),(l.foldl (fun acc x=>if x∈acc then acc else acc++ [x]) acc).length<=acc.length+l.length:=by
  intro l
  induction l with
  |nil=>simp
  |cons x l ih=>
   intro acc;simp only [foldl_cons,length_cons];refine Nat.le_trans (ih _) ?_;split<;>simp<;>omega
 simpa [qa9]using h l []
theorem q26: ∀(l acc:List ByteArray),(acc++l).Nodup->l.foldl (fun acc x=>if x∈acc then acc else acc++ [x]) acc=acc++l:=by
 intro l
 induction l with
 |nil=>simp
 |cons x l ih=>
  intro acc h;have hx:x∉acc:=fun hx=>by
   rw [nodup_append]at h;exact h.2.2 x hx x (by simp) rfl
  rw [foldl_cons,if_neg hx,ih]
  ·simp
  ·simpa using h
theorem qkp (l:List ByteArray):(qa9 l).Nodup:=by
 have h: ∀(l acc:List ByteArray),acc.Nodup->(l.foldl (fun acc x=>if x∈acc then acc else acc++ [x]) acc).Nodup:=by
  intro l
  induction l with
  |nil=>simp
  |cons x l ih=>
   intro acc ha;rw [foldl_cons];split
   ·exact ih _ ha
   ·refine ih _ ?_;rw [nodup_append];exact⟨ha,by simp,fun a h1 b h2 e=>by simp at h2;subst h2;subst e;contradiction⟩
 exact h l [] (by simp)
theorem qxp (l:List ByteArray):qa9 (qa9 l)=qa9 l:=by
 have:=q26 (qa9 l) [] (by simpa using qkp l)
 simpa [qa9]using this
theorem qrb (l:List ByteArray)(x:ByteArray):x∈qa9 l↔x∈l:=by
 have h: ∀(l acc:List ByteArray),x∈l.foldl (fun acc x=>if x∈acc then acc else acc++ [x]) acc↔x∈acc∨x∈l:=by
  intro l
  induction l with
  |nil=>simp
  |cons y l ih=>
   intro acc;simp only [foldl_cons,ih,mem_cons];split
   ·constructor
    ·rintro(h |h)
     ·exact .inl h
     ·exact .inr (.inr h)
    ·rintro(h |h |h)
     ·exact .inl h
     ·subst h;exact .inl (by assumption)
     ·exact .inr h
   ·simp [or_assoc]
 simpa [qa9]using h l []
theorem q5e {α:Type}{p:α->Bool}{l:List α}{k:Nat}{s:α}(h: ∀x,x∈l.take k->p x=false)(hk:l[k]?=some s)(hs:p s=true):l.find? p=some s:=by
 have hlt:=(List.getElem?_eq_some_iff.1 hk).1;have he:=(List.getElem?_eq_some_iff.1 hk).2;have hsplit:l=l.take k++(s::l.drop (k+1)):=by rw [←he,←drop_eq_getElem_cons hlt,take_append_drop]
 rw [hsplit,find?_append,find?_eq_none.2 (fun x hx=>by simp [h x hx]),find?_cons,hs]
 rfl
def RuleD.names (r:RuleD):List ByteArray:=r.stands.map (·.2)
def RuleIn (n:Nat)(w:World)(sh sb:Value)(r:RuleD):Prop:=qaj n w sh r.head.args/\qf3 n w sb r.body
theorem RuleIn.keep {n:Nat}{w w':World}{sh sb:Value}{r:RuleD}(h:RuleIn n w sh sb r)(hK:Keep (fun k=>k<n) w w'):RuleIn n w' sh sb r:=⟨qas h.1 hK,qim h.2 hK⟩
theorem RuleIn.wider {n n':Nat}{w:World}{sh sb:Value}{r:RuleD}(h:RuleIn n w sh sb r)(hn:n<=n'):RuleIn n' w sh sb r:=⟨qii h.1 hn,qxo h.2 hn⟩
def qgc (w:World)(b o:Nat)(s:ByteArray):Prop:=w.cell? ⟨b,o,none⟩=some (.string s)
abbrev qae (n:Nat)(w:World)(v:Value)(ss:List ByteArray):Prop:=SliceIn n w 1 qgc v ss
theorem qgk {n:Nat}{w w':World}{v:Value}{ts:List ByteArray}(h:qae n w v ts)(hK:Keep (fun k=>k<n) w w'):qae n w' v ts:=
 h.mono fun _ _ _ hb h=>hK.cell h hb
theorem qez {n n':Nat}{w:World}{v:Value}{ts:List ByteArray}(h:qae n w v ts)(hn:n<=n'):qae n' w v ts:=
 SliceIn.wider h hn fun _ _ _ _ h=>h
def qfr (w:World)(b o:Nat)(s:Int):Prop:=w.cell? ⟨b,o,none⟩=some (.int .i64 s)
abbrev qap (n:Nat)(w:World)(v:Value)(ss:List Int):Prop:=SliceIn n w 1 qfr v ss
theorem qdx {α:Type}{w:World}{base:Nat}{e:TypeId}{sz:Nat}{v:Value}{n:Nat}{xs:List Value}(h:w.ownsRow base e sz v n xs)(ds:List α)(hn:n=ds.length)(hb:ds.length<=1073741824)
  (E:World->Nat->Nat->α->Prop) (hE: ∀b k d,ds[k]?=some d->(∀j,j<sz->w.cell? ⟨b,k*sz+j,none⟩=xs[k*sz+j]?)->E w b (k*sz) d):SliceIn w.heap.size w sz E v ds:=by
 subst hn;obtain⟨hl,h⟩:=h;rcases h with ⟨rfl,h0⟩ |⟨g,cap,cur,rfl,hbg,hg,hc,hm,hs,ht⟩
 ·refine⟨none,0,by rw [h0],hb,by simp [h0,maxLen],fun k x hx=>?_⟩;have:=(List.getElem?_eq_some_iff.1 hx).1;omega
 ·refine⟨_,cap,rfl,hb,⟨hc,hm⟩,fun k x hx=>⟨g,0,rfl,qe hg,?_⟩⟩;rw [Nat.zero_add];refine hE _ _ _ hx (fun j hj=>?_);have hk:=(List.getElem?_eq_some_iff.1 hx).1;have hlt:k*sz+j<ds.length*sz:=by
   have:(k+1)*sz<=ds.length*sz:=Nat.mul_le_mul_right _ hk;rw [Nat.add_mul]at this;omega
  subst ht;simp [World.cell?,hg,getElem?_take,hlt]
theorem qcn {w:World}{base:Nat}{e:TypeId}{v:Value}{n:Nat}{ss:List ByteArray}(h:w.ownsRow base e 1 v n (ss.map .string))(hb:ss.length<=1073741824):qae w.heap.size w v ss:=
 qdx h ss (by have:=h.1;simpa using this.symm) hb qgc fun b k d hd hc=>by
  have:=hc 0 (by omega);simp only [Nat.mul_one,Nat.add_zero]at this⊢;rw [qgc,this];simp [hd]
theorem qd8 {w:World}{base:Nat}{e:TypeId}{v:Value}{n:Nat}{ss:List Int}(h:w.ownsRow base e 1 v n (ss.map (.int .i64)))(hb:ss.length<=1073741824):qap w.heap.size w v ss:=
 qdx h ss (by have:=h.1;simpa using this.symm) hb qfr fun b k d hd hc=>by
  have:=hc 0 (by omega);simp only [Nat.mul_one,Nat.add_zero]at this⊢;rw [qfr,this];simp [hd]
theorem qg {w w':World}{base:Nat}{e:TypeId}{sz:Nat}{v:Value}{n:Nat}{xs:List Value}{C:Nat->Prop}(h:w.ownsRow base e sz v n xs)(hK:Keep C w w')(hC: ∀b,v.ownBlock=some b->C b):w'.ownsRow base e sz v n xs:=by
 refine⟨h.1,?_⟩;rcases h.2 with hn |⟨g,cap,cur,rfl,hb,hgg,rest⟩
 ·exact .inl hn
 ·exact .inr ⟨g,cap,cur,rfl,hb,hK.heap hgg (hC g rfl),rest⟩
theorem qbc {α:Type}(f:α->List Value)(sz:Nat)(hf: ∀a,(f a).length=sz): ∀(ps:List α) (k j:Nat) (p:α),ps[k]?=some p->j<sz->(ps.flatMap f)[k*sz+j]?=(f p)[j]?:=by
 intro ps
 induction ps with
 |nil=>intro k j p h;simp at h
 |cons a ps ih=>
  intro k j p h hj;cases k with
  |zero=>
   simp at h;subst h;simp only [flatMap_cons,Nat.zero_mul,Nat.zero_add];rw [getElem?_append_left (by rw [hf];exact hj)]
  |succ k=>
   simp only [getElem?_cons_succ]at h;simp only [flatMap_cons];have e:(k+1)*sz+j=sz+(k*sz+j):=by rw [Nat.add_mul];omega
   rw [e,getElem?_append_right (by rw [hf];omega),hf,Nat.add_sub_cancel_left];exact ih k j p h hj
theorem qa0 {α:Type}(f:α->List Value)(sz:Nat)(hf: ∀a,(f a).length=sz)(ps:List α):(ps.flatMap f).length=ps.length*sz:=by
 induction ps with
 |nil=>simp
 |cons a ps ih=>simp [hf,ih,Nat.add_mul];omega
theorem qs2 {n0:Nat}{w:World}{base:Nat}{e:TypeId}{v:Value}{n:Nat}{ps:List (LitD×Value)}(h:w.ownsRow base e 7 v n (ps.flatMap fun p=>qaf p.1 p.2))(hb:ps.length<=1073741824)(hn:n0<=w.heap.size)
  (hps: ∀p,p∈ps->qaj n0 w p.2 p.1.atom.args):qf3 w.heap.size w v (ps.map (·.1)):=
 qdx h (ps.map (·.1)) (by have:=h.1;rw [qa0 _ 7 (fun _=>rfl)] at this;simp;omega) (by simpa using hb) (LitE w.heap.size) fun b k d hd hc=>by
  rw [getElem?_map]at hd;obtain⟨p,hp,rfl⟩:=Option.map_eq_some_iff.1 hd;refine⟨p.2,fun j u hu=>?_,qii (hps p (mem_of_getElem? hp)) hn⟩;have hj:j<7:=(List.getElem?_eq_some_iff.1 hu).1;rw [hc j hj,qbc _ 7 (fun _=>rfl) ps k j p hp hj];exact hu
theorem qlg (r:RuleD):r.names=r.headLit.uses++r.body.flatMap LitD.uses:=by
 have h: ∀(ls:List LitD) (i:Nat),(qcu ls i).map (·.2)=ls.flatMap LitD.uses:=by
  intro ls
  induction ls with
  |nil=>simp [qcu]
  |cons L ls ih=>intro i;simp [qcu,ih,Function.comp_def]
 rw [RuleD.names,RuleD.stands,h,RuleD.lits,flatMap_cons]
def qcp (body:List LitD):List ByteArray:=qa9 ((body.filter fun L=>L.kind==1).flatMap LitD.uses)
def SetIn (w:World)(b:Nat)(s:List ByteArray):Prop:=
 ∃es clock,w.heap[b]?=some (.map es clock)/\es.toList.map (fun e=>(e.key,e.val))=s.map fun k=>(Value.string k,Value.bool true)
theorem SetIn.keep {w w':World}{b:Nat}{s:List ByteArray}{C:Nat->Prop}(h:SetIn w b s)(hK:Keep C w w')(hC:C b):SetIn w' b s:=by
 obtain⟨es,c,h1,h2⟩:=h;exact⟨es,c,hK.heap h1 hC,h2⟩
theorem qmm (w:World):SetIn (w.alloc (.map #[] 0)) w.heap.size []:=⟨#[],0,qh w _,rfl⟩
theorem SetIn.lt {w:World}{b:Nat}{s:List ByteArray}(h:SetIn w b s):b<w.heap.size:=by
 obtain⟨es,c,h1,h2⟩:=h;exact qe h1
theorem qnx (k:ByteArray): ∀(s:List ByteArray) (es:List MapEntry) (i:Nat),es.map (fun e=>(e.key,e.val))=s.map (fun k=>(Value.string k,Value.bool true))->
  ∃r,Instr.findNow .string (.string k) es i=some r/\(r=none/\k∉s∨ ∃j,r=some (i+j,.bool true)/\s[j]?=some k):=by
 intro s
 induction s with
 |nil=>intro es i h;cases es with
  |nil=>exact⟨none,rfl,.inl ⟨rfl,by simp⟩⟩
  |cons e es=>simp at h
 |cons a s ih=>intro es i h;cases es with
  |nil=>simp at h
  |cons e es=>
   simp only [map_cons,List.cons.injEq,Prod.mk.injEq]at h;obtain⟨⟨h1,h2⟩,h3⟩:=h;by_cases hk:k=a
   ·subst hk;refine⟨some (i,.bool true),?_,.inr ⟨0,rfl,rfl⟩⟩;simp [Instr.findNow,Instr.sameNow,h1,h2]
   ·obtain⟨r,hr,hh⟩:=ih es (i+1) h3;refine⟨r,?_,?_⟩
    ·have:(k==a)=false:=by simpa using hk
     simp [Instr.findNow,Instr.sameNow,h1,this,hr]
    ·rcases hh with ⟨rfl,hn⟩ |⟨j,rfl,hj⟩
     ·exact .inl ⟨rfl,by simp [hk,hn]⟩
     ·exact .inr ⟨j+1,by simp;omega,by simpa using hj⟩
section
variable {P : Program} {T K E : TypeId} (hT : P.underlying T = some (.map K E)) (hK : P.underlying K = some .string)
include hT hK
theorem qh9 (hE: ∀w,(zeroValue E).run P w=.ok (.bool false) w){w:World}{b:Nat}{s:List ByteArray}(h:SetIn w b s)(k:ByteArray):
  (Instr.lookup T (.map (some b)) (.string k) false).run P w=.ok (.bool (decide (k∈s))) w:=by
 obtain⟨es,c,h1,h2⟩:=h;obtain⟨r,hr,hh⟩:=qnx k s es.toList 0 h2;have hg:(getObj b).run P w=.ok (.map es c) w:=by simp [getObj,Sem.run,h1]
 have hc: ∀e n,(Instr.checkKey e (n+1) K (.string k)).run P w=.ok () w:=by intro e n;simp [Instr.checkKey,Sem.run_bind,run_underlying hK,Result.andThen]
 simp only [Instr.lookup,Sem.run_bind,run_underlying hT,Result.andThen,hg,Sem.run_pure,hc,Instr.findKey,run_underlying hK,hr];rcases hh with ⟨rfl,hn⟩ |⟨j,rfl,hj⟩
 ·simp [Sem.run_bind,hE,Result.andThen,hn]
 ·have:k∈s:=mem_of_getElem? hj;simp [Sem.run_bind,Result.andThen,this]
theorem qia {w:World}{b:Nat}{s:List ByteArray}(h:SetIn w b s)(k:ByteArray):
  ∃w',(Instr.mapUpdate T (.map (some b)) (.string k) (.bool true)).run P w=.ok () w'/\SetIn w' b (if k∈s then s else s++ [k])/\Keep (fun j=>j≠b) w w'/\w'.heap.size=w.heap.size:=by
 obtain⟨es,c,h1,h2⟩:=h;obtain⟨r,hr,hh⟩:=qnx k s es.toList 0 h2;have hg:(getObj b).run P w=.ok (.map es c) w:=by simp [getObj,Sem.run,h1]
 have hset: ∀o,(setObj b o).run P w=.ok () (w.putObj b o):=by intro o;simp [setObj,Sem.run,h1,World.putObj]
 have hc: ∀e n,(Instr.checkKey e (n+1) K (.string k)).run P w=.ok () w:=by intro e n;simp [Instr.checkKey,Sem.run_bind,run_underlying hK,Result.andThen]
 rcases hh with ⟨rfl,hn⟩ |⟨j,rfl,hj⟩
 ·refine⟨w.putObj b (.map (es.push {key:=.string k,val:=.bool true,born:=c}) (c+1)),?_,?_,Keep.putObj _ _ _ (by simp),by simp⟩
  ·simp [Instr.mapUpdate,Sem.run_bind,run_underlying hT,Result.andThen,hg,hc,Instr.findKey,run_underlying hK,hr,hset]
  ·exact⟨_,_,World.putObj_heap_same (qe h1),by simp [hn,h2]⟩
 ·have hmem:k∈s:=mem_of_getElem? hj;have hkey:(es[j]?).map (·.key)=some (.string k):=by
   have h3:=congrArg (fun l=>l[j]?) h2;simp only [getElem?_map,hj,Option.map_some]at h3;cases he:es[j]? with
   |none=>simp [he] at h3
   |some e=>simp [he] at h3;simp [h3.1]
  have hsame:(Instr.keyThatStays (.string k) (.string k)).run P w=.ok (.string k) w:=by simp [Instr.keyThatStays,Instr.sameBits]
  refine⟨w.putObj b (.map (es.modify j fun e=>{e with key:=.string k,val:=.bool true}) c),?_,?_,Keep.putObj _ _ _ (by simp),by simp⟩
  ·simp [Instr.mapUpdate,Sem.run_bind,run_underlying hT,Result.andThen,hg,hc,Instr.findKey,run_underlying hK,hr,hset,hkey,hsame]
  ·refine⟨_,_,World.putObj_heap_same (qe h1),?_⟩;rw [if_pos hmem,←h2];apply ext_getElem?;intro i;simp only [getElem?_map,Array.getElem?_toList,Array.getElem?_modify];by_cases hi:j=i
   ·subst hi;have h3:=congrArg (fun l=>l[j]?) h2;simp only [getElem?_map,hj,Option.map_some]at h3;cases he:es[j]? with
    |none=>simp [he] at h3
    |some e=>simp [he] at h3;simp [h3]
   ·simp [hi]
end
def qce (P:Program)(t e:TypeId)(size bytes:Nat):Prop:=
 P.underlying t=some (.slice e)/\0<size/\bytes<=4096/\ ∃i z,P.info? e=some i/\i.zero=some z/\i.size=size/\i.bytes=bytes/\z.cells.size=size
theorem qcx {P:Program}{t e:TypeId}{z:Value}{size bytes:Nat}(h:P.underlying t=some (.slice e))(hi:(P.info? e).map (fun i=>(i.zero,i.size,i.bytes))=some (some z,size,bytes))(hz:z.cells.size=size)(hs:0<size)(hb:bytes<=4096):qce P t e size bytes:=by
 obtain⟨i,h1,h2,h3,h4⟩:=info_parts hi;exact⟨h,hs,hb,i,z,h1,h2,h3,h4,hz⟩
theorem qah (w:World)(o:Obj)(k:Nat):(w.alloc o).heap[k]?=if k=w.heap.size then some o else w.heap[k]?:=by
 show(w.heap.push o)[k]?=_;rw [Array.getElem?_push]
theorem qgu {w:World}{B t:Nat}{v:Value}{fr:Nat×Nat}(u:Value)(h:w.heap[B]?=some (.cells #[v] t fr)):(w.setCell ⟨B,0,none⟩ u).heap[B]?=some (.cells #[u] t fr):=by
 obtain⟨hlt,hk⟩:=Array.getElem?_eq_some_iff.1 h;show(w.heap.modify B _)[B]?=_;rw [Array.getElem?_eq_getElem (by rw [Array.size_modify];exact hlt),Array.getElem_modify_self,hk]
 rfl
theorem q8 {w:World}{B t:Nat}{cs:Array Value}{fr:Nat×Nat}(i:Nat)(u:Value)(h:w.heap[B]?=some (.cells cs t fr)):(w.setCell ⟨B,i,none⟩ u).heap[B]?=some (.cells (cs.setIfInBounds i u) t fr):=by
 obtain⟨hlt,hk⟩:=Array.getElem?_eq_some_iff.1 h;show(w.heap.modify B _)[B]?=_;rw [Array.getElem?_eq_getElem (by rw [Array.size_modify];exact hlt),Array.getElem_modify_self,hk]
 rfl
variable {P : Program}
theorem app {t e:TypeId}{size bytes:Nat}(hE:qce P t e size bytes)(ty:TypeId){w:World}{base:Nat}{v:Value}{n:Nat}{xs:List Value}(hown:w.ownsRow base e size v n xs)
  (a:Addr) (m c:Nat) (news:List Value) (hl:news.length=m*size) (hnews: ∀j u,news[j]?=some u->w.cell? (a.add j)=some u) (h1: ∀u∈news,u.oneCell'=true)
  (hm0:0<m) (hnm:n+m<=8589934592) (hbase:base<=w.heap.size):
  ∃v' w',(Builtin.append_ #[t,t] ty #[v,.slice (some a) m c]).run P w=.ok v' w'/\w'.ownsRow base e size v' (n+m) (xs++news)/\Keep (fun b=>some b≠v.ownBlock) w w'/\
   ∃g cap,v'=.slice (some ⟨g,0,none⟩) (n+m) cap/\(v.ownBlock=some g∨w.heap.size<=g)/\g<w'.heap.size:=by
 obtain⟨ht,hsz,hby,i,z,hi,hz,hsize,hbytes,hzs⟩:=hE;subst hsize;subst hbytes;have hb47:(n+m)*i.bytes<=140737488355328:=Nat.le_trans (Nat.mul_le_mul hnm hby) (by decide);have h63:n+m<=maxLen:=by simp only [maxLen];omega
 have hlen:(xs++news).length=(n+m)*i.size:=by rw [length_append,hown.1,hl,Nat.add_mul]
 have grown: ∀(old:Nat),old<n+m-> ∀(row:Option Nat),
   (w.drew.alloc (.cells (xs.toArray++news.toArray++Builtin.zeroCells z.cells (grownCap w (n+m) old e-(n+m))) e)).ownsRow base e i.size
    (.slice (some ⟨w.heap.size,0,none⟩) (n+m) (grownCap w (n+m) old e)) (n+m) (xs++news)/\
   w.grownBy (w.drew.alloc (.cells (xs.toArray++news.toArray++Builtin.zeroCells z.cells (grownCap w (n+m) old e-(n+m))) e)) row:=by
  intro old ho row;have hge:=grownCap_ge w (n+m) old e;have hcm:grownCap w (n+m) old e<=maxLen:=grownCap_le_maxLen w (n+m) old e h63;refine⟨⟨hlen,.inr ⟨w.heap.size,_,_,rfl,hbase,World.alloc_heap_new w.drew _,hge,hcm,?_,?_⟩⟩,⟨rfl,rfl,rfl,by simp,fun k hk _=>Below.heap_alloc w.drew _ k hk⟩⟩
  ·simp only [Array.size_append,size_toArray,size_zeroCells,hzs,hown.1,hl,←Nat.add_mul]
   congr 1
   omega
  ·simp only [Array.toList_append,append_assoc];rw [←append_assoc,←hlen];exact take_left
 rcases hown.2 with ⟨rfl,rfl⟩ |⟨g,cap,cur,rfl,hbg,hg,hnc,hcm,hcs,htake⟩
 ·have hx:xs= []:=eq_nil_of_length_eq_zero (by simpa using hown.1);subst hx;have hr:=run_append_nil (P:=P) w t ty e i z ht hi hz a m c news hl hnews (by omega) (by omega) (by have hb:=hb47;simp only [Nat.zero_add] at hb;omega);have hgr:=grown 0 (by omega) (Value.ownBlock (.slice none 0 0));simp only [Nat.zero_add,nil_append,Array.empty_append]at hgr⊢;exact⟨_,_,hr,hgr.1,Keep.of_grown hgr.2,_,_,rfl,.inr (Nat.le_refl _),by simp⟩
 ·by_cases hroom:n+m<=cap
  ·have hfit:n*i.size+news.length<=cur.size:=by rw [hl,hcs,←Nat.add_mul];exact Nat.mul_le_mul_right _ hroom
   have hr:=run_append_room (P:=P) w t ty e i ht hi g n cap cur hg a m c news hl hnews h1 hroom hfit;have hG:w.grownBy (w.setRow g (cur.toList.take (n*i.size)++news++cur.toList.drop (n*i.size+news.length)).toArray) (some g):=⟨rfl,rfl,rfl,by simp,fun k _ hk=>setRow_other w g k _ (fun e=>hk (by simp [e]))⟩;refine⟨_,_,hr,⟨hlen,.inr ⟨g,cap,_,rfl,hbg,setRow_heap w g cur _ e _ hg,hroom,hcm,?_,?_⟩⟩,Keep.of_grown hG,g,cap,rfl,.inl rfl,?_⟩
   ·simp only [size_toArray,length_append,length_take,length_drop,Array.length_toList];omega
   ·rw [htake,←hlen];exact take_left
   ·exact Nat.lt_of_lt_of_le (qe hg) hG.size
  ·have holds: ∀j u,xs[j]?=some u->w.cell? ((⟨g,0,none⟩:Addr).add j)=some u:=hown.cells (g:=g) rfl;have hr:=run_append_grow (P:=P) w t ty e i z ht hi hz ⟨g,0,none⟩ n cap xs hown.1 holds a m c news hl hnews (by omega) (by omega) (growslice_fits (by omega) hb47);have hgr:=grown cap (by omega) (Value.ownBlock (.slice (some ⟨g,0,none⟩) n cap));exact⟨_,_,hr,hgr.1,Keep.of_grown hgr.2,_,_,rfl,.inr (Nat.le_refl _),by simp⟩
theorem qc4 {t e:TypeId}{size bytes:Nat}(hE:qce P t e size bytes)(ty:TypeId){w:World}{base:Nat}{v:Value}{n:Nat}{xs:List Value}(hown:w.ownsRow base e size v n xs)
  (news:List Value) (hl:news.length=size) (h1: ∀u∈news,u.oneCell'=true) (hnm:n+1<=8589934592) (hbase:base<=w.heap.size):
  ∃v' w',(Builtin.append_ #[t,t] ty #[v,.slice (some ⟨w.heap.size,0,none⟩) 1 1]).run P (w.alloc (.cells news.toArray e))=.ok v' w'/\w'.ownsRow base e size v' (n+1) (xs++news)/\Keep (fun b=>some b≠v.ownBlock) w w'/\
   ∃g cap,v'=.slice (some ⟨g,0,none⟩) (n+1) cap/\(v.ownBlock=some g∨w.heap.size<=g)/\g<w'.heap.size:=by
 have hk:Keep (fun _=>True) w (w.alloc (.cells news.toArray e)):=kAl;obtain⟨v',w',hr,ho,hK,g,cap,hv,hg,hlt⟩:=app hE ty (qg hown hk (fun _ _=>trivial)) ⟨w.heap.size,0,none⟩ 1 1 news (by omega) (fun j u hj=>by
   have:=qb (qh w (.cells news.toArray e)) j u (by simpa using hj);simp only [Nat.zero_add]at this;rw [show((⟨w.heap.size,0,none⟩:Addr).add j)=⟨w.heap.size,j,none⟩ from by unfold Addr.add;split<;>simp_all];exact this) h1 (by omega) hnm (by simp;omega)
 refine⟨v',w',hr,ho,(hk.mono fun _ _ _=>trivial).trans hK,g,cap,hv,hg.imp id (fun h=>?_),hlt⟩;simp at h;omega
theorem qch {F:Fence}{n:Nat}{w w':World}{ops:Array Oper}{rest:List Oper}{o:Oper}{a:Act}{Q:Exit->Act->World->Prop}{v u v':Value}
  (hg:o.guard=none) (s x:Operand) (t:TypeId) (hop:o.op=Op.call {callee:=Callee.builtin Builtin.append,args:= #[s,x],argTypes:= #[t,t]}) (hs:a.eval s=v) (hx:a.eval x=u)
  (hrun:(Builtin.append_ #[t,t] o.type #[v,u]).run P w=.ok v' w') (hK:wpListIn F n P ops Q rest (a.put o.dst v') w'):wpListIn F n P ops Q (o::rest) a w:=by
 refine wpListIn_plain hg fun K hK'=>?_;unfold Oper.wpIn;refine⟨?_,?_⟩
 ·simp [Oper.about,hop,resolve,Target.leads,Sem.run_pure]
 ·rw [Oper.semAt_plain F _ _ (by rw [hop];intro c hc';cases hc')];simp [execOp,hop,resolve,invoke,builtin,hs,hx,hrun,Result.andThen];exact hK' _ _ hK
theorem qcq {w w':World}{ops:Array Oper}{rest:List Oper}{o:Oper}{a:Act}{Q:Exit->Act->World->Prop}{v u v':Value}
  (hg:o.guard=none) (s x:Operand) (t:TypeId) (hop:o.op=Op.call {callee:=Callee.builtin Builtin.append,args:= #[s,x],argTypes:= #[t,t]}) (hs:a.eval s=v) (hx:a.eval x=u)
  (hrun:(Builtin.append_ #[t,t] o.type #[v,u]).run P w=.ok v' w') (hK:wpList P ops Q rest (a.put o.dst v') w'):wpList P ops Q (o::rest) a w:=by
 refine wpList_plain hg fun K hK'=>?_;unfold Oper.wp execOp;simp only [hop,resolve,invoke,builtin,Sem.run_bind,Sem.run_pure,Result.andThen_ok,map_toArray,map_cons,map_nil,hs,hx,hrun];exact hK' _ _ hK
variable {P : Program}
theorem q6q {t e:TypeId}{size bytes:Nat}(hE:qce P t e size bytes)(ty:TypeId){w:World}{base:Nat}{v:Value}{n:Nat}{xs:List Value}(hown:w.ownsRow base e size v n xs)
  (a:Addr) (m c:Nat) (news:List Value) (hl:news.length=m*size) (hnews: ∀j u,news[j]?=some u->w.cell? (a.add j)=some u) (h1: ∀u∈news,u.oneCell'=true)
  (hm0:0<m) (hnm:n+m<=8589934592) (hbase:base<=w.heap.size):
  ∃v' w',(Builtin.append_ #[t,t] ty #[v,.slice (some a) m c]).run P w=.ok v' w'/\w'.ownsRow base e size v' (n+m) (xs++news)/\
   ∃g cap,v'=.slice (some ⟨g,0,none⟩) (n+m) cap/\(v.ownBlock=some g∨w.heap.size<=g)/\g<w'.heap.size/\Keep (fun b=>b≠g) w w':=by
 obtain⟨ht,hsz,hby,i,z,hi,hz,hsize,hbytes,hzs⟩:=hE;subst hsize;subst hbytes;have hb47:(n+m)*i.bytes<=140737488355328:=Nat.le_trans (Nat.mul_le_mul hnm hby) (by decide);have h63:n+m<=maxLen:=by simp only [maxLen];omega
 have hlen:(xs++news).length=(n+m)*i.size:=by rw [length_append,hown.1,hl,Nat.add_mul]
 have grown: ∀(old:Nat),old<n+m-> ∀(row:Option Nat),
   (w.drew.alloc (.cells (xs.toArray++news.toArray++Builtin.zeroCells z.cells (grownCap w (n+m) old e-(n+m))) e)).ownsRow base e i.size
    (.slice (some ⟨w.heap.size,0,none⟩) (n+m) (grownCap w (n+m) old e)) (n+m) (xs++news)/\
   w.grownBy (w.drew.alloc (.cells (xs.toArray++news.toArray++Builtin.zeroCells z.cells (grownCap w (n+m) old e-(n+m))) e)) row:=by
  intro old ho row;have hge:=grownCap_ge w (n+m) old e;have hcm:grownCap w (n+m) old e<=maxLen:=grownCap_le_maxLen w (n+m) old e h63;refine⟨⟨hlen,.inr ⟨w.heap.size,_,_,rfl,hbase,World.alloc_heap_new w.drew _,hge,hcm,?_,?_⟩⟩,⟨rfl,rfl,rfl,by simp,fun k hk _=>Below.heap_alloc w.drew _ k hk⟩⟩
  ·simp only [Array.size_append,size_toArray,size_zeroCells,hzs,hown.1,hl,←Nat.add_mul]
   congr 1
   omega
  ·simp only [Array.toList_append,append_assoc];rw [←append_assoc,←hlen];exact take_left
 rcases hown.2 with ⟨rfl,rfl⟩ |⟨g,cap,cur,rfl,hbg,hg,hnc,hcm,hcs,htake⟩
 ·have hx:xs= []:=eq_nil_of_length_eq_zero (by simpa using hown.1);subst hx;have hr:=run_append_nil (P:=P) w t ty e i z ht hi hz a m c news hl hnews (by omega) (by omega) (by have hb:=hb47;simp only [Nat.zero_add] at hb;omega);have hgr:=grown 0 (by omega) none;simp only [Nat.zero_add,nil_append,Array.empty_append]at hgr⊢;exact⟨_,_,hr,hgr.1,_,_,rfl,.inr (Nat.le_refl _),by simp,(Keep.of_grown hgr.2).mono fun _ _ _=>by simp⟩
 ·by_cases hroom:n+m<=cap
  ·have hfit:n*i.size+news.length<=cur.size:=by rw [hl,hcs,←Nat.add_mul];exact Nat.mul_le_mul_right _ hroom
   have hr:=run_append_room (P:=P) w t ty e i ht hi g n cap cur hg a m c news hl hnews h1 hroom hfit;have hG:w.grownBy (w.setRow g (cur.toList.take (n*i.size)++news++cur.toList.drop (n*i.size+news.length)).toArray) (some g):=⟨rfl,rfl,rfl,by simp,fun k _ hk=>setRow_other w g k _ (fun e=>hk (by simp [e]))⟩;refine⟨_,_,hr,⟨hlen,.inr ⟨g,cap,_,rfl,hbg,setRow_heap w g cur _ e _ hg,hroom,hcm,?_,?_⟩⟩,g,cap,rfl,.inl rfl,?_,(Keep.of_grown hG).mono fun _ _ h=>by simpa using h⟩
   ·simp only [size_toArray,length_append,length_take,length_drop,Array.length_toList];omega
   ·rw [htake,←hlen];exact take_left
   ·exact Nat.lt_of_lt_of_le (qe hg) hG.size
  ·have holds: ∀j u,xs[j]?=some u->w.cell? ((⟨g,0,none⟩:Addr).add j)=some u:=hown.cells (g:=g) rfl;have hr:=run_append_grow (P:=P) w t ty e i z ht hi hz ⟨g,0,none⟩ n cap xs hown.1 holds a m c news hl hnews (by omega) (by omega) (growslice_fits (by omega) hb47);have hgr:=grown cap (by omega) none;exact⟨_,_,hr,hgr.1,_,_,rfl,.inr (Nat.le_refl _),by simp,(Keep.of_grown hgr.2).mono fun _ _ _=>by simp⟩
theorem qvk {t e:TypeId}{size bytes:Nat}(hE:qce P t e size bytes)(ty:TypeId)(w:World)(b:Option Addr)(n cap:Nat)(hle:n<=cap)(a:Option Addr)(c:Nat):
  (Builtin.append_ #[t,t] ty #[.slice b n cap,.slice a 0 c]).run P w=.ok (.slice b n cap) w:=by
 obtain⟨ht,hsz,hby,i,z,hi,hz,hsize,hbytes,hzs⟩:=hE;cases a<;>cases b<;>simp [Builtin.append_,run_underlying ht,sizeOf,typeInfo,hi,Builtin.lenOf,Builtin.firstCells,loadCells,loadCellsFrom,hle,storeCells]
theorem qji {t e:TypeId}{size bytes:Nat}(hE:qce P t e size bytes)(ty:TypeId){w:World}{base:Nat}{v:Value}{n:Nat}{xs:List Value}(hown:w.ownsRow base e size v n xs)
  (a:Option Addr) (m c:Nat) (news:List Value) (hl:news.length=m*size) (hnews: ∀b,a=some b-> ∀j u,news[j]?=some u->w.cell? (b.add j)=some u) (hn:a=none->m=0) (h1: ∀u∈news,u.oneCell'=true)
  (hnm:n+m<=8589934592) (hbase:base<=w.heap.size):
  ∃v' w',(Builtin.append_ #[t,t] ty #[v,.slice a m c]).run P w=.ok v' w'/\w'.ownsRow base e size v' (n+m) (xs++news)/\(∀g,v'.ownBlock=some g->v.ownBlock=some g∨w.heap.size<=g)/\Keep (fun b=>v'.ownBlock≠some b) w w':=by
 by_cases h0:m=0
 ·subst h0;have:news= []:=eq_nil_of_length_eq_zero (by simpa using hl);subst this;rw [append_nil];have hv: ∃b n' cap,v=.slice b n' cap/\n'<=cap:=by
   rcases hown.2 with ⟨e1,e2⟩ |⟨g,cap,cur,e1,e2,e3,e4,e5,_⟩
   ·exact⟨none,0,0,e1,Nat.le_refl _⟩
   ·exact⟨_,_,_,e1,e4⟩
  obtain⟨b,n',cap,rfl,hle⟩:=hv;exact⟨_,_,qvk hE ty w b n' cap hle a c,hown,fun g hg=>.inl hg,Keep.refl _ _⟩
 ·cases a with
  |none=>exact absurd (hn rfl) h0
  |some ad=>
   obtain⟨v',w',hr,ho,g,cap,hv,hg,hlt,hK⟩:=q6q hE ty hown ad m c news hl (hnews ad rfl) h1 (by omega) hnm hbase;refine⟨v',w',hr,ho,fun g' hg'=>?_,hK.mono fun b _ h e=>h ?_⟩
   ·rw [hv]at hg';simp only [Value.ownBlock,Option.some.injEq]at hg';subst hg';exact hg
   ·rw [hv,e];rfl
end Go.Ink
