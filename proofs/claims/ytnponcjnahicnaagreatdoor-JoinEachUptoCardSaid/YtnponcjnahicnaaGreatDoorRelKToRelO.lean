/- Parts of the proof. -/
import Derived.Test.YtnponcjnahicnaaGreatDoorHoistTToRelJ
set_option linter.unusedSimpArgs false
set_option linter.unusedVariables false
set_option maxRecDepth 100000
set_option maxHeartbeats 4000000
open Go.Proofs.Tryz(prog)
open List(eq_of_mem_replicate filter_congr filter_eq_nil_iff find?_some flatten_cons getElem?_zipIdx getElem_cons_succ getElem_cons_zero getElem_toArray length_cons length_singleton mapM_cons nodup_nil set_cons_succ set_cons_zero zipIdx_append)
namespace Go.Proofs.R4
open Go.RowKit Go.Ink Go.WideMaps
def okI (x:Int):Prop:= -9223372036854775808<=x/\x<=9223372036854775807
def okT (t:List Int):Prop:= ∀x∈t,okI x
theorem qli:ArrKey prog 214 3 16:=⟨Tryz.underlying214,wB,wB,wB⟩
theorem qrs:ArrKey prog 217 4 16:=⟨Tryz.underlying217,wB,wB,wB⟩
theorem qma: ∃m,prog.types.size=m+1:=⟨prog.types.size-1,by
 have:0<prog.types.size:=yE wB;omega⟩
theorem qsr {α β:Type}(f:α->Option β): ∀L:List α,(∀i∈L,∃x,f i=some x)-> ∃xs,L.mapM f=some xs
 | [],_=>⟨[],rfl⟩
 |i::L,h=>by
  obtain⟨x,hx⟩:=h i wC;obtain⟨xs,b⟩:=qsr f L (fun j c=>h j (by simp [c]));exact⟨x::xs,by rw [mapM_cons,hx,b];rfl⟩
theorem qss {P:Program}{k e:TypeId}{n:Nat}(A:ArrKey P k e n)(c: ∃m,P.types.size=m+1)(b:List Value)(p:b.length=n)(h: ∀v∈b,∃l,∀D,P.keyLits (D+1) e [v]=some l): ∃l,keyOf P k (.agg b.toArray)=some l:=by
 have d:=A.keyType c;obtain⟨m,t⟩:=c;unfold keyOf;simp only [A.hu];rw [zI (by simp [d,Value.formed,A.hu,A.size,p]),t];unfold Program.keyLits;simp only [A.hu,Value.cells];rw [zI (by rw [A.size];exact p)];obtain⟨xs,g⟩:=qsr (fun i=>P.keyLits (m+1) e ((b.drop (i*P.cellsOf e)).take (P.cellsOf e))) (List.range n) (fun i hi=>by
  rw [A.one,yB];have hi:=yi.1 hi;have q:(b.drop i).take 1= [b[i]' wA]:=by
   rw [zt wA]
   rfl
  rw [q];obtain⟨l,s⟩:=h _ (xE (by omega:i<b.length));exact⟨l,s m⟩)
 simp only [g];exact⟨_,rfl⟩
theorem qqx {k:List Int}(b:k.length=16)(h:okT k): ∃l,keyOf prog 214 (qhn k)=some l:=
 qss qli qma _ (by simp [b]) (fun v c=>by
  obtain⟨x,e,rfl⟩:=yL.1 c;have:=h x e;refine⟨[.int .i64 x],fun D=>?_⟩;unfold Program.keyLits;have d:(Lit.int .i64 x).wf=true:=by
   simp only [Lit.wf,zV,zT];exact this
  simp only [Tryz.underlying3,d,and_self,yg])
def qij (c:List Bool):Value:=.agg (c.map .bool).toArray
theorem qu9: ∀a b:List Bool,qij a=qij b->a=b:=by
 intro a b h;unfold qij at h;injection h with h
 have c:a.map Value.bool=b.map .bool:=by simpa using yN Array.toList h
 clear h
 induction a generalizing b with
 |nil=>cases b with
  |nil=>rfl
  |cons y b=>simp at c
 |cons x a ih=>cases b with
  |nil=>simp at c
  |cons y b=>
   simp only [yX,List.cons.injEq,Value.bool.injEq]at c;rw [c.1,ih b c.2]
theorem q9r {c:List Bool}(b:c.length=16): ∃l,keyOf prog 217 (qij c)=some l:=
 qss qrs qma _ (by simp [b]) (fun v d=>by
  obtain⟨x,e,rfl⟩:=yL.1 d;refine⟨[.bool x],fun D=>?_⟩;unfold Program.keyLits;rw [Tryz.underlying4])
theorem qoj {t:List Int}(h:okT t):okT (qa6 t):=by
 intro x b;unfold qa6 at b;rcases zr.1 b with b |b
 ·exact h x b
 ·have:=eq_of_mem_replicate b;subst this;exact⟨wD,wD⟩
theorem q8g {t l:List Int}(h:okT t):okT (qet t l):=by
 intro x b;unfold qet at b;obtain⟨c,_,rfl⟩:=yL.1 b;rw [zJ];cases d:t[c.toNat]? with
 |none=>exact⟨wD,wD⟩
 |some y=>exact h y (zH d)
inductive Tag where
 |box |data |pmap |kmap
 |lbox (c:List Bool) |llist (c:List Bool) |lmap (c:List Bool)
 |ent (c:List Bool) (k:List Int) (p:Nat)
abbrev qb9:=Nat->Option Tag
def qca:Option Tag->Option (List Bool)
 |some (.lbox c) |some (.llist c) |some (.lmap c) |some (.ent c _ _)=>some c
 |_=>none
def TagLe (s t:qb9):Prop:= ∀b T,s b=some T->t b=some T∨ ∃c k p q,T=.ent c k p/\t b=some (.ent c k q)/\p<=q
theorem TagLe.refl (s:qb9):TagLe s s:=fun _ _ h=>.inl h
theorem TagLe.trans {s t u:qb9}(h:TagLe s t)(g:TagLe t u):TagLe s u:=by
 intro b T d;rcases h b T d with h1 |⟨c,k,p,q,rfl,h1,hpq⟩
 ·exact g b T h1
 ·rcases g b _ h1 with h2 |⟨c2,k2,p2,q2,h3,h2,hpq2⟩
  ·exact .inr ⟨c,k,p,q,rfl,h2,hpq⟩
  ·cases h3;exact .inr ⟨c,k,p,q2,rfl,h2,wA⟩
def qax (l:List Int):List Bool:=(List.range 16).map fun i:Nat=>decide ((i:Int)∈l)
def idx (ts:List (List Int))(l k:List Int):List Nat:=(List.range ts.length).filter fun i=>decide (qch (ts.getD i []) l=k)
theorem qlj (ts:List (List Int))(t l k:List Int):idx (ts++ [t]) l k=idx ts l k++(if qch t l=k then [ts.length] else []):=by
 unfold idx;rw [zR,length_singleton,xx,yT]
 congr 1
 ·refine filter_congr fun i hi=>?_;rw [yi]at hi;rw [zJ,zJ,yR hi]
 ·by_cases b:qch t l=k
  ·simp [ye,zJ,b]
  ·simp [ye,zJ,b]
theorem qyk (ts:List (List Int))(l k:List Int):(idx ts l k).length<=ts.length:=by
 unfold idx;exact zW (yd _ _) wC
abbrev qik (i:Nat):Value:=.int .i64 (i:Int)
abbrev q3o (w:World)(M:Nat)(m:List (List Int×Value)):Prop:=MapIn prog 214 qhn (fun v:Value=>v) w M m
structure LookAt (tag:qb9)(w:World)(n:Nat)(ts:List (List Int))(c:List Bool)(L:Nat)(l:List Int)(vl:Value)(M:Nat)(m:List (List Int×Value)):Prop where
 row:qdz n l=true
 mask:qax l=c
 tagL:tag L=some (.lbox c)
 box:w.heap[L]?=some (.cells #[vl,.map (some M)] 268 (0,0))
 tagM:tag M=some (.lmap c)
 map:q3o w M m
 list:w.ownsRow 0 3 1 vl l.length (l.map (.int .i64))
 tagl: ∀b,vl.ownBlock=some b->tag b=some (.llist c)
 keys: ∀k,k∈m.map (·.1)↔ ∃t∈ts,qch t l=k
 few:m.length<=ts.length
 ents: ∀k v,(k,v)∈m->w.ownsRow 0 3 1 v (idx ts l k).length ((idx ts l k).map qik)/\ ∀b,v.ownBlock=some b->tag b=some (.ent c k (idx ts l k).length)
 blocks: ∀b k p,tag b=some (.ent c k p)-> ∀j,j<p-> ∃i,(idx ts l k)[j]?=some i/\w.cell? ⟨b,j,none⟩=some (qik i)
theorem LookAt.keep {tag tag':qb9}{w w':World}{n:Nat}{ts:List (List Int)}{c:List Bool}{L M:Nat}{l:List Int}{y:Value}{m:List (List Int×Value)}{C:Nat->Prop}(h:LookAt tag w n ts c L l y M m)(hK:Keep C w w')(e: ∀b,qca (tag b)=some c->C b)(q: ∀b,qca (tag b)=some c->tag' b=tag b)(x: ∀b,qca (tag' b)=some c->tag' b=tag b):LookAt tag' w' n ts c L l y M m:=by
 have R:qca (tag L)=some c:=by rw [h.tagL];rfl
 have U:qca (tag M)=some c:=by rw [h.tagM];rfl
 have Y: ∀b,y.ownBlock=some b->qca (tag b)=some c:=fun b d=>by rw [h.tagl b d];rfl
 refine⟨h.row,h.mask,(q L R).trans h.tagL,hK.heap h.box (e L R),(q M U).trans h.tagM,h.map.keep hK (e M U),qf h.list hK (fun b d=>e b (Y b d)),fun b d=>(q b (Y b d)).trans (h.tagl b d),h.keys,h.few,fun k v u=>?_,fun b k p d j hj=>?_⟩
 ·obtain⟨t,g⟩:=h.ents k v u;have z: ∀b,v.ownBlock=some b->qca (tag b)=some c:=fun b d=>by rw [g b d];rfl
  exact⟨qf t hK (fun b d=>e b (z b d)),fun b d=>(q b (z b d)).trans (g b d)⟩
 ·have s:=x b (by rw [d];rfl);rw [d]at s;obtain⟨i,t,g⟩:=h.blocks b k p s.symm j hj;exact⟨i,t,hK.cell g (e b (by rw [←s];rfl))⟩
structure TagStep (c:List Bool)(tag tag':qb9)(w w':World):Prop where
 le:TagLe tag tag'
 old: ∀b,b<w.heap.size->qca (tag b)≠some c->tag' b=tag b
 new: ∀b T,tag' b=some T->b<w'.heap.size/\(w.heap.size<=b->qca (some T)=some c)
 ents: ∀b c',qca (tag' b)=some c'->qca (tag b)=some c'∨c'=c
theorem qva: ∀w:World,(zeroValue 125).run prog w=.ok (.slice none 0 0) w:=fun w=>wB
theorem q3p {tag:qb9}{W W2:World}{n:Nat}{ts:List (List Int)}{c:List Bool}{L M:Nat}{l:List Int}{vl:Value}{m:List (List Int×Value)}(h:LookAt tag W n ts c L l vl M m)(ai: ∀b T,tag b=some T->b<W.heap.size)(t:List Int)(aR:ts.length<=536870912)
  (ae:Keep (fun b=>b≠M) W W2) (aP:W2.heap.size=W.heap.size+1) (aA:W2.heap[W.heap.size]?=some (.cells #[qik ts.length] 3 (0,0))) (v0:Value) (aF:(∃v,(qch t l,v)∈m/\v0=v)∨(qch t l∉m.map (·.1)/\v0=.slice none 0 0)) (st:Int)
  (aE: ∀w2:World,w2.heap[M]?=W2.heap[M]?-> ∀v:Value,∃w3,(Instr.entryStore 266 (.map (some M)) (.int .i64 st) v).run prog w2=.ok () w3/\q3o w3 M (setK m (qch t l) v)/\Keep (fun j=>j≠M) w2 w3/\w3.heap.size=w2.heap.size):
  ∃v' W3 W4,(Builtin.append_ #[125,125] 125 #[v0,.slice (some ⟨W.heap.size,0,none⟩) 1 1]).run prog W2=.ok v' W3/\(Instr.entryStore 266 (.map (some M)) (.int .i64 st) v').run prog W3=.ok () W4/\Keep (fun b=>b≠M/\ ∀k p,tag b≠some (.ent c k p)) W W3/\
   ∃tag',LookAt tag' W4 n (ts++ [t]) c L l vl M (setK m (qch t l) v')/\TagStep c tag tag' W W4/\Keep (fun b=>qca (tag b)≠some c) W W4:=by
 have aK:=ai M _ h.tagM;have ak:W.ownsRow 0 3 1 v0 (idx ts l (qch t l)).length ((idx ts l (qch t l)).map qik)/\ ∀b,v0.ownBlock=some b->tag b=some (.ent c (qch t l) (idx ts l (qch t l)).length):=by
  rcases aF with ⟨v,hv,rfl⟩ |⟨R,rfl⟩
  ·exact h.ents _ _ hv
  ·have:idx ts l (qch t l)= []:=by
    refine filter_eq_nil_iff.2 fun i hi=>?_;rw [yi]at hi;simp only [zT];intro he;refine R ((h.keys _).2 ⟨ts.getD i [],?_,he⟩);rw [zJ,zB hi];exact xE hi
   rw [this];exact⟨zj _ _ _ _,fun b d=>by simp [Value.ownBlock] at d⟩
 obtain⟨aq,au⟩:=ak;have aw: ∀b,v0.ownBlock=some b->b≠M:=fun b d e=>by have:=au b d;rw [e,h.tagM] at this;cases this
 have aB:=qf aq ae aw;have aN:=qyk ts l (qch t l);obtain⟨v',W3,aC,aj,g,cap,am,hg,aM,U⟩:=qug qnf 125 aB ⟨W.heap.size,0,none⟩ 1 1 [qik ts.length] rfl (fun j u hj=>by
  have:=qb aA j u (by simpa using hj);simp only [zD]at this;rw [show((⟨W.heap.size,0,none⟩:Addr).add j)=⟨W.heap.size,j,none⟩ from by unfold Addr.add;split<;>simp_all];exact this) (by simp [Value.oneCell']) wA wA wA
 have x:tag g=some (.ent c (qch t l) (idx ts l (qch t l)).length)∨(tag g=none/\W.heap.size<g):=by
  rcases hg with hg |hg
  ·exact .inl (au g hg)
  ·refine .inr ⟨?_,wA⟩;cases hT:tag g with
   |none=>rfl
   |some T=>have:=ai g T hT;omega
 have y: ∀b,qca (tag b)=some c->(∀p,tag b≠some (.ent c (qch t l) p))->b≠g:=fun b d R e=>by
  subst e;rcases x with s |⟨s,_⟩
  ·exact R _ s
  ·rw [s]at d;cases d
 have Y:M≠g:=y M (by rw [h.tagM];rfl) (fun p=>by rw [h.tagM];exact fun e=>(by cases e));obtain⟨W4,aD,az,af,aQ⟩:=aE W3 (U.block M wA Y) v';have aS:=U.size;have z:Keep (fun b=>b≠M/\b≠g) W W4:=(ae.mono fun b _ h=>h.1).trans ((U.mono fun b _ h=>h.2).trans (af.mono fun b _ h=>h.1));have av:Keep (fun b=>b≠M/\ ∀k p,tag b≠some (.ent c k p)) W W3:=(ae.mono fun b _ h=>h.1).trans (U.mono fun b d h e=>by
  subst e;rcases x with s |⟨_,s⟩
  ·exact h.2 _ _ s
  ·rcases hg with hg |hg
   ·have:=(zE aq _ hg).2;omega
   ·omega)
 refine⟨v',W3,W4,aC,aD,av,fun b=>if b=g then some (.ent c (qch t l) ((idx ts l (qch t l)).length+1)) else tag b,?_,⟨?_,?_,?_,?_⟩,?_⟩
 ·have ay: ∀b,qca (tag b)=some c->b≠M->b≠g->b≠M/\b≠g:=fun b _ s h2=>⟨s,h2⟩;have hL:L≠M/\L≠g:=⟨fun e=>(by have:=h.tagL;rw [e,h.tagM] at this;cases this),y L (by rw [h.tagL];rfl) (fun p=>by rw [h.tagL];exact fun e=>(by cases e))⟩;have ap: ∀b,vl.ownBlock=some b->b≠M/\b≠g:=fun b d=>⟨fun e=>(by have:=h.tagl b d;rw [e,h.tagM] at this;cases this),y b (by rw [h.tagl b d];rfl) (fun p=>by rw [h.tagl b d];exact fun e=>(by cases e))⟩;refine⟨h.row,h.mask,by rw [zF hL.2];exact h.tagL,z.heap h.box hL,by rw [zF Y];exact h.tagM,az,qf h.list z ap,fun b d=>by rw [zF (ap b d).2];exact h.tagl b d,fun k=>?_,?few,fun k v aa=>?_,fun b k p d j hj=>?_⟩
  case few=>
   have:=h.few;unfold setK;split<;>simp<;>omega
  ·have ar:k∈(setK m (qch t l) v').map (·.1)↔k∈m.map (·.1)∨k=qch t l:=by
    by_cases ah:qch t l∈m.map (·.1)
    ·rw [qnc ah];exact⟨.inl,fun h=>h.elim id (fun e=>e▸ah)⟩
    ·unfold setK;rw [zF ah];simp
   rw [ar,h.keys];constructor
   ·rintro(⟨t1,ht1,e⟩ |e)
    ·exact⟨t1,by simp [ht1],e⟩
    ·exact⟨t,wC,e.symm⟩
   ·rintro⟨t1,ht1,e⟩;rcases zr.1 ht1 with ht1 |ht1
    ·exact .inl ⟨t1,ht1,e⟩
    ·have:t1=t:=by simpa using ht1
     subst this;exact .inr e.symm
  ·have ag:(k=qch t l/\v=v')∨(k≠qch t l/\(k,v)∈m):=by
    unfold setK at aa;split at aa
    ·obtain⟨p,hp,he⟩:=yL.1 aa;split at he
     ·rename_i e1;cases he;exact .inl ⟨rfl,rfl⟩
     ·rename_i e1;subst he;exact .inr ⟨e1,hp⟩
    ·rename_i R;rcases zr.1 aa with hp |hp
     ·exact .inr ⟨fun e=>R (e▸yL.2 ⟨_,hp,rfl⟩),hp⟩
     ·simp at hp;exact .inl hp
   rcases ag with ⟨rfl,rfl⟩ |⟨hne,hmem⟩
   ·rw [qlj,zI rfl];refine⟨?_,fun b d=>?_⟩
    ·have:=qf aj af (fun b d=>by rw [am] at d;simp only [Value.ownBlock,yb] at d;rw [←d];exact fun e=>Y e.symm)
     simpa using this
    ·rw [am]at d;simp only [Value.ownBlock,yb]at d;rw [zI d.symm];simp
   ·rw [qlj,zF (fun e=>hne e.symm),yP];obtain⟨s,h2⟩:=h.ents k v hmem;have h3: ∀b,v.ownBlock=some b->b≠M/\b≠g:=fun b d=>⟨fun e=>(by have:=h2 b d;rw [e,h.tagM] at this;cases this),y b (by rw [h2 b d];rfl) (fun p=>by rw [h2 b d];exact fun e=>by cases e;exact hne rfl)⟩;exact⟨qf s z h3,fun b d=>by rw [zF (h3 b d).2];exact h2 b d⟩
  ·by_cases q:b=g
   ·subst q;rw [zI rfl]at d;simp only [yb,Tag.ent.injEq,true_and]at d;obtain⟨hk,rfl⟩:=d;subst hk;rw [qlj,zI rfl];obtain⟨i,hi⟩: ∃i,(idx ts l (qch t l)++ [ts.length])[j]?=some i:=⟨_,zB (by simp;omega)⟩;refine⟨i,hi,?_⟩;rw [am]at aj;have:=qbd aj j (qik i) (by rw [show(idx ts l (qch t l)).map qik++ [qik ts.length]=(idx ts l (qch t l)++ [ts.length]).map qik from wC,zP,hi];rfl);exact af.cell this (fun e=>Y e.symm)
   ·rw [zF q]at d;obtain⟨i,s,h2⟩:=h.blocks b k p d j hj;refine⟨i,?_,z.cell h2 ⟨fun e=>?_,q⟩⟩
    ·rw [qlj,yR (zA.1 s).1];exact s
    ·simp only at e;rw [e,h.tagM]at d;cases d
 ·intro b T d;by_cases q:b=g
  ·subst q;rcases x with s |⟨s,_⟩
   ·rw [s]at d;cases d;exact .inr ⟨c,_,_,_,rfl,zI rfl,wA⟩
   ·rw [s]at d;cases d
  ·exact .inl (by show(if b=g then _ else _)=_;rw [zF q];exact d)
 ·intro b aL d;have q:b≠g:=fun e=>by
   subst e;rcases x with s |⟨_,s⟩
   ·rw [s]at d;exact d rfl
   ·omega
  show(if b=g then _ else _)=_;rw [zF q]
 ·intro b T d;by_cases q:b=g
  ·subst q;simp only [yg]at d;cases d;exact⟨wA,fun _=>rfl⟩
  ·simp only [zF q]at d;have:=ai b T d;exact⟨wA,fun h=>wA⟩
 ·intro b c' d;by_cases q:b=g
  ·subst q;simp only [yg]at d;cases d;exact .inr rfl
  ·simp only [zF q]at d;exact .inl d
 ·refine z.mono fun b d hC=>⟨fun e=>?_,fun e=>?_⟩
  ·subst e;exact hC (by rw [h.tagM];rfl)
  ·subst e;rcases x with s |⟨_,s⟩
   ·exact hC (by rw [s];rfl)
   ·omega
end Go.Proofs.R4
namespace Go.Proofs.R4
open Go.RowKit Go.Ink
attribute [local go_sem] Oper.semAt_some
theorem q0m {F:World->Prop}{w:World}(G:World->Prop)(h:G w)(k: ∀W,G W->F W):F w:=k w h
theorem qvb {tag:qb9}{w:World}{n:Nat}{ts:List (List Int)}{c:List Bool}{L M:Nat}{l:List Int}{vl:Value}{m:List (List Int×Value)}(h:LookAt tag w n ts c L l vl M m)(bn: ∀b T,tag b=some T->b<w.heap.size)(hn:n<=16)(bt:ts.length<=536870912)
  (v:Value) (t:List Int) (hs:qay w.heap.size w v t) (ht:t.length=n) (bq:okT t) (bm:l.length<=16):
  Calls prog 137 #[.pointer (some ⟨L,0,none⟩),v,qik ts.length] w fun e w'=>e=.returned (.tuple #[])/\
   ∃tag' m',LookAt tag' w' n (ts++ [t]) c L l vl M m'/\TagStep c tag tag' w w'/\Keep (fun b=>qca (tag b)≠some c) w w':=by
 obtain⟨a,cc,rfl,cb,cG,bh⟩:=id hs;have b9:=qe h.box;have ca:=h.map.lt;have d0:=qb h.box 0 _ rfl;simp only [zD]at d0;have bi: ∀x∈l,0<=x/\x<t.length:=fun x hx=>by rw [ht];exact qoc h.row x hx
 have bl:qay w.heap.size w vl l:=qfk h.list wA;have aw:(qa6 (qet t l)).length=16:=qhy (by rw [qj0];exact bm);have aK: ∃q,keyOf prog 214 (qhn (qch t l))=some q:=qqx aw (qoj (q8g bq));obtain⟨k0,k1,k2,k3,k4,k5,k6,k7,k8,k9,g,s,y,z,R,U,ay⟩: ∃k0 k1 k2 k3 k4 k5 k6 k7 k8 k9 g s y z R U,qch t l= [k0,k1,k2,k3,k4,k5,k6,k7,k8,k9,g,s,y,z,R,U]:=by
  unfold qch
  match h:qa6 (qet t l),aw with
  | [k0,k1,k2,k3,k4,k5,k6,k7,k8,k9,g,s,y,z,R,U],_=>exact⟨k0,k1,k2,k3,k4,k5,k6,k7,k8,k9,g,s,y,z,R,U,rfl⟩
 have bk:qhn (qch t l)=.agg #[.int .i64 k0,.int .i64 k1,.int .i64 k2,.int .i64 k3,.int .i64 k4,.int .i64 k5,.int .i64 k6,.int .i64 k7,.int .i64 k8,.int .i64 k9,.int .i64 g,.int .i64 s,.int .i64 y,.int .i64 z,.int .i64 R,.int .i64 U]:=by rw [ay];rfl
 clear aw ht bq;refine qdx ?_ h bn hs bh bi bl aK ay bk bt;clear h bn hs bh bi bl aK ay bk bt;intro Xh ae bU b6 a7 a8 aT bS aD aE
 go_enter Tryz.func137,Tryz.ntmps137
 go_wp2_with fail;refine(q7u w _ vl t l bU.o a8.o bm a7.o).mono ?_;rintro e W1 ⟨rfl,aZ⟩;obtain⟨W0,aW⟩:=ex (W1.alloc (.cells #[.int .i64 0,.int .i64 0,.int .i64 0,.int .i64 0,.int .i64 0,.int .i64 0,.int .i64 0,.int .i64 0,.int .i64 0,.int .i64 0,.int .i64 0,.int .i64 0,.int .i64 0,.int .i64 0,.int .i64 0,.int .i64 0] 214));obtain⟨d,aX⟩:=ex (W1.heap.size);have n1:W0.heap[d]?=some (.cells #[.int .i64 0,.int .i64 0,.int .i64 0,.int .i64 0,.int .i64 0,.int .i64 0,.int .i64 0,.int .i64 0,.int .i64 0,.int .i64 0,.int .i64 0,.int .i64 0,.int .i64 0,.int .i64 0,.int .i64 0,.int .i64 0] 214 (0,0)):=by rw [←aW,←aX];exact qh _ _
 have bv:Keep (fun b=>b<w.heap.size) w W0:=by rw [←aW];exact aZ.trans kAl
 have s0:d<W0.heap.size:=qe n1;have cI:w.heap.size<=d:=by rw [←aX];exact aZ.size
 have z0:=qb n1 0 _ rfl;have f0:=qg n1 0;have z1:=qb n1 1 _ rfl;have f1:=qg n1 1;have z2:=qb n1 2 _ rfl;have f2:=qg n1 2;have z3:=qb n1 3 _ rfl;have f3:=qg n1 3;have z4:=qb n1 4 _ rfl;have f4:=qg n1 4;have z5:=qb n1 5 _ rfl;have f5:=qg n1 5;have z6:=qb n1 6 _ rfl;have f6:=qg n1 6;have z7:=qb n1 7 _ rfl;have f7:=qg n1 7;have z8:=qb n1 8 _ rfl;have f8:=qg n1 8;have z9:=qb n1 9 _ rfl;have f9:=qg n1 9;have bI:=qb n1 10 _ rfl;have cx:=qg n1 10;have bJ:=qb n1 11 _ rfl;have cy:=qg n1 11;have bK:=qb n1 12 _ rfl;have cz:=qg n1 12;have bL:=qb n1 13 _ rfl;have cA:=qg n1 13;have bM:=qb n1 14 _ rfl;have cB:=qg n1 14;have bN:=qb n1 15 _ rfl;have cC:=qg n1 15;simp only [zD]at z0 z1 z2 z3 z4 z5 z6 z7 z8 z9 bI bJ bK bL bM bN;rw [aD.o];clear aZ;refine hd2 ?_ n1 bv;clear n1 bv;intro a9 aF;go_wp2_with fail;refine q0m (fun W=>W.heap[d]?=some (.cells #[.int .i64 k0,.int .i64 k1,.int .i64 k2,.int .i64 k3,.int .i64 k4,.int .i64 k5,.int .i64 k6,.int .i64 k7,.int .i64 k8,.int .i64 k9,.int .i64 g,.int .i64 s,.int .i64 y,.int .i64 z,.int .i64 R,.int .i64 U] 214 (0,0))/\Keep (fun k=>k<w.heap.size) w W) (w:=qg9 d [.int .i64 k0,.int .i64 k1,.int .i64 k2,.int .i64 k3,.int .i64 k4,.int .i64 k5,.int .i64 k6,.int .i64 k7,.int .i64 k8,.int .i64 k9,.int .i64 g,.int .i64 s,.int .i64 y,.int .i64 z,.int .i64 R,.int .i64 U] 0 W0) ⟨qha [.int .i64 k0,.int .i64 k1,.int .i64 k2,.int .i64 k3,.int .i64 k4,.int .i64 k5,.int .i64 k6,.int .i64 k7,.int .i64 k8,.int .i64 k9,.int .i64 g,.int .i64 s,.int .i64 y,.int .i64 z,.int .i64 R,.int .i64 U] a9.o rfl,aF.o.trans ((qe8 _ _ _ _).mono (fun b _ h=>wA))⟩ ?_;rintro W2 ⟨hq,bw⟩;clear z0 z1 z2 z3 z4 z5 z6 z7 z8 z9 bI bJ bK bL bM bN a9 aF s0 aX aW;have r0:=qb hq 0 _ rfl;have r1:=qb hq 1 _ rfl;have r2:=qb hq 2 _ rfl;have r3:=qb hq 3 _ rfl;have r4:=qb hq 4 _ rfl;have r5:=qb hq 5 _ rfl;have r6:=qb hq 6 _ rfl;have r7:=qb hq 7 _ rfl;have r8:=qb hq 8 _ rfl;have r9:=qb hq 9 _ rfl
 have bx:=qb hq 10 _ rfl;have bz:=qb hq 11 _ rfl;have bD:=qb hq 12 _ rfl;have bF:=qb hq 13 _ rfl;have bG:=qb hq 14 _ rfl;have bH:=qb hq 15 _ rfl;simp only [zD]at r0 r1 r2 r3 r4 r5 r6 r7 r8 r9 bx bz bD bF bG bH;have bV:qca (tag L)=some c:=by rw [Xh.o.tagL];rfl
 obtain⟨Wd,aB⟩:=ex (W2.drew);have kd:Keep (fun k=>k<w.heap.size) w Wd:=by rw [←aB];exact bw.trans kDr
 have hd:LookAt tag Wd n ts c L l vl M m:=Xh.o.keep kd (fun b hb=>by
  cases hT:tag b with
  |none=>rw [hT] at hb;cases hb
  |some T=>exact ae.o b T hT) (fun _ _=>rfl) (fun _ _=>rfl)
 have bg: ∀b T,tag b=some T->b<Wd.heap.size:=fun b T hb=>zk (ae.o b T hb) kd.size;have bo:m.length<=maxLen:=by have:=hd.few;have:=aE.o;simp only [maxLen];omega
 have cF:=hd.map.lt;have cd:d<Wd.heap.size:=by rw [←aB];exact qe hq
 have step: ∀tag' W4,TagStep c tag tag' Wd W4->TagStep c tag tag' w W4:=fun tag' W4 ah=>⟨ah.le,fun b hb=>ah.old b (zk hb kd.size),fun b T hb=>⟨(ah.new b T hb).1,fun cH=>by
  rcases yY b Wd.heap.size with hb1 |hb1
  ·have ax:tag b=none:=by
    cases hT:tag b with
    |none=>rfl
    |some T'=>have:=ae.o b T' hT;omega
   have:=ah.old b hb1 (by rw [ax];exact fun e=>(by cases e));rw [hb,ax]at this;cases this
  ·exact(ah.new b T hb).2 hb1⟩,ah.ents⟩
 have az: ∀W4,Keep (fun b=>qca (tag b)≠some c) Wd W4->Keep (fun b=>qca (tag b)≠some c) w W4:=fun W4 hk=>⟨hk.os.trans kd.os,hk.tape.trans kd.tape,hk.output.trans kd.output,zW kd.size hk.size,fun b hb hC=>(hk.block b (zk hb kd.size) hC).trans (kd.block b hb hb)⟩;obtain⟨au,Y⟩:=ex (Wd.alloc (.cells #[qik ts.length] 3));have aY:wE Wd au:=by rw [←Y];exact kAl
 have bO:au.heap.size=Wd.heap.size+1:=by rw [←Y];simp
 have ba:au.heap[Wd.heap.size]?=some (.cells #[qik ts.length] 3 (0,0)):=by rw [←Y];exact qh _ _
 obtain⟨vA,stA,bQ,b0,bu,aC,bs,aN⟩:=qzs (P:=prog) Tryz.underlying266 qli.law qjz qva (hd.map.keep aY wF) bo (qch t l) aT.o;obtain⟨b3,a1,aP,aL,aM,aJ,cp,bb,bc,bd⟩:=q3p hd bg t aE.o (aY.mt.trans aC) (bs.trans bO) ((aC.block _ wA wA).trans ba) vA bu stA aN;rw [aD.o]at b0;have fA: ∃tag' m',LookAt tag' aP n (ts++ [t]) c L l vl M m'/\TagStep c tag tag' w aP/\Keep (fun b=>qca (tag b)≠some c) w aP:=⟨_,_,bb,step _ _ bc,az _ bd⟩;have e1:Wd.cell? ⟨L,1,none⟩=some (.map (some M)):=by have:=qb hd.box 1 _ rfl;simpa using this
 have cE:=qe hd.box;have br:Wd.heap[d]?=some (.cells #[.int .i64 k0,.int .i64 k1,.int .i64 k2,.int .i64 k3,.int .i64 k4,.int .i64 k5,.int .i64 k6,.int .i64 k7,.int .i64 k8,.int .i64 k9,.int .i64 g,.int .i64 s,.int .i64 y,.int .i64 z,.int .i64 R,.int .i64 U] 214 (0,0)):=by rw [←aB];exact hq
 have bp:tag d=none:=by
  cases hT:tag d with
  |none=>rfl
  |some T=>have:=ae.o d T hT;omega
 have af: ∀W:World,Keep (fun b=>b≠M/\ ∀k p,tag b≠some (.ent c k p)) Wd W->W.cell? ⟨L,1,none⟩=some (.map (some M))/\W.heap[d]?=some (.cells #[.int .i64 k0,.int .i64 k1,.int .i64 k2,.int .i64 k3,.int .i64 k4,.int .i64 k5,.int .i64 k6,.int .i64 k7,.int .i64 k8,.int .i64 k9,.int .i64 g,.int .i64 s,.int .i64 y,.int .i64 z,.int .i64 R,.int .i64 U] 214 (0,0)):=fun W hW=>⟨hW.cell e1 ⟨fun e=>(by have:=hd.tagL;simp only at e;rw [e,hd.tagM] at this;cases this),fun k p e=>(by have:=hd.tagL;simp only at e;rw [e] at this;cases this)⟩,hW.heap br ⟨fun e=>wA,fun k p e=>by rw [bp] at e;cases e⟩⟩;have ad: ∀W:World,Keep (fun b=>b≠M/\ ∀k p,tag b≠some (.ent c k p)) Wd W->W.cell? ⟨L,1,none⟩=some (.map (some M))/\W.cell? ⟨d,0,none⟩=some (.int .i64 k0)/\W.cell? ⟨d,1,none⟩=some (.int .i64 k1)/\W.cell? ⟨d,2,none⟩=some (.int .i64 k2)/\W.cell? ⟨d,3,none⟩=some (.int .i64 k3)/\W.cell? ⟨d,4,none⟩=some (.int .i64 k4)/\W.cell? ⟨d,5,none⟩=some (.int .i64 k5)/\W.cell? ⟨d,6,none⟩=some (.int .i64 k6)/\W.cell? ⟨d,7,none⟩=some (.int .i64 k7)/\W.cell? ⟨d,8,none⟩=some (.int .i64 k8)/\W.cell? ⟨d,9,none⟩=some (.int .i64 k9)/\W.cell? ⟨d,10,none⟩=some (.int .i64 g)/\W.cell? ⟨d,11,none⟩=some (.int .i64 s)/\W.cell? ⟨d,12,none⟩=some (.int .i64 y)/\W.cell? ⟨d,13,none⟩=some (.int .i64 z)/\W.cell? ⟨d,14,none⟩=some (.int .i64 R)/\W.cell? ⟨d,15,none⟩=some (.int .i64 U):=fun W hW=>by
  obtain⟨q1,q2⟩:=af W hW;refine⟨q1,?_,?_,?_,?_,?_,?_,?_,?_,?_,?_,?_,?_,?_,?_,?_,?_⟩<;>simp [World.cell?,q2]
 clear aY bO ba bb bc bd bu bs aN step az hd bg bo bw kd bV r0 r1 r2 r3 r4 r5 r6 r7 r8 r9 bx bz bD bF bG bH e1 br af;have bf:=ad au (by rw [←Y];exact kAl);have aG:=ad bQ (((by rw [←Y];exact kAl:Keep (fun b=>b≠M) Wd au).trans aC).mono fun b _ h=>h.1);have aI:=ad a1 aJ;have aH:=ad Wd (Keep.refl _ _);clear aC aJ ad bp;refine hd9 ?_ fA hq bf aG aH aI Y aL aM;clear fA hq bf aG aH aI Y aL aM;intro bR cv a6 av aQ aR aS aU aV;subst aB;refine qau rfl (fun W=>W.cell? ⟨L,1,none⟩=some (.map (some M))/\W.cell? ⟨d,0,none⟩=some (.int .i64 k0)/\W.cell? ⟨d,1,none⟩=some (.int .i64 k1)/\W.cell? ⟨d,2,none⟩=some (.int .i64 k2)/\W.cell? ⟨d,3,none⟩=some (.int .i64 k3)/\W.cell? ⟨d,4,none⟩=some (.int .i64 k4)/\W.cell? ⟨d,5,none⟩=some (.int .i64 k5)/\W.cell? ⟨d,6,none⟩=some (.int .i64 k6)/\W.cell? ⟨d,7,none⟩=some (.int .i64 k7)/\W.cell? ⟨d,8,none⟩=some (.int .i64 k8)/\W.cell? ⟨d,9,none⟩=some (.int .i64 k9)/\W.cell? ⟨d,10,none⟩=some (.int .i64 g)/\W.cell? ⟨d,11,none⟩=some (.int .i64 s)/\W.cell? ⟨d,12,none⟩=some (.int .i64 y)/\W.cell? ⟨d,13,none⟩=some (.int .i64 z)/\W.cell? ⟨d,14,none⟩=some (.int .i64 R)/\W.cell? ⟨d,15,none⟩=some (.int .i64 U)) [11] ?_;refine qq [0,1,2,3,4,5] ?_
 iterate 6
  refine tkA rfl aQ.o ?_
  try simp only [qr]
 refine ql ?_;refine ho 6 rfl fun K a2=>?_;have bW:=aS.o;go_wp2_with fail;refine a2.o _ _ (fun _=>a6.o) ?_;refine ho 7 rfl fun K a3=>?_;go_wp2_with fail;refine a3.o _ _ (fun _=>av.o) ?_;refine qq [8,10] ?_
 iterate 2
  refine tkA rfl av.o ?_
  try simp only [qr]
 refine ql ?_;refine ho 9 rfl fun K a4=>?_;simp only [getElem_toArray,getElem_cons_zero,getElem_cons_succ,Act.put,yK,set_cons_zero,set_cons_succ];refine qbo (v:=vA) (u:=.slice (some ⟨W2.heap.size,0,none⟩) 1 1) (v':=b3) (w':=a1) rfl (.tmp 18) (.tmp 20) 125 rfl rfl rfl aU.o ?_;go_wp2_with fail;refine a4.o _ _ (fun _=>aR.o) ?_;refine ho 11 rfl fun K a5=>?_;have b1:=aV.o;go_wp2_with fail;refine a5.o _ _ (fun h=>by simp at h) ?_;refine qa0 wB ?_;go_wp2_with fail;refine xy (yt rfl _ _ _) rfl ?_;exact⟨rfl,bR.o⟩
def qee (ts:List (List Int)):List (List Int×Nat):=ts.zipIdx.map fun p=>(qa6 p.1,p.2)
abbrev qk (b:Nat):Value:=.pointer (some ⟨b,0,none⟩)
abbrev qvc (w:World)(b:Nat)(m:List (List Int×Nat)):Prop:=MapIn prog 214 qhn qik w b m
abbrev qyl (w:World)(b:Nat)(m:List (List Bool×Nat)):Prop:=MapIn prog 217 qij qk w b m
structure RelG (tag:qb9)(w:World)(B n:Nat)(ts:List (List Int))(tsl:List Bool->List (List Int))(vD:Value)(P K:Nat)(lm:List (List Bool×Nat)):Prop where
 tagB:tag B=some .box
 box:w.heap[B]?=some (.cells (qfm n vD ts.length P K).toArray 209 (0,0))
 n16:n<=16
 nodup:ts.Nodup
 right: ∀t∈ts,qdi n t=true
 ok: ∀t∈ts,okT t
 own:w.ownsRow 0 3 1 vD ts.flatten.length (ts.flatten.map (.int .i64))
 tagD: ∀b,vD.ownBlock=some b->tag b=some .data
 tagP:tag P=some .pmap
 pmap:qvc w P (qee ts)
 tagK:tag K=some .kmap
 kmap:qyl w K lm
 looks: ∀c L,(c,L)∈lm-> ∃l vl M m,LookAt tag w n (tsl c) c L l vl M m
 ents: ∀b c,qca (tag b)=some c-> ∃L,(c,L)∈lm
 lt: ∀b T,tag b=some T->b<w.heap.size
abbrev qci (tag:qb9)(w:World)(B n:Nat)(ts:List (List Int))(vD:Value)(P K:Nat)(lm:List (List Bool×Nat)):Prop:=RelG tag w B n ts (fun _=>ts) vD P K lm
theorem RelG.keep {tag:qb9}{w w':World}{B n:Nat}{ts:List (List Int)}{g:List Bool->List (List Int)}{vD:Value}{P K:Nat}{lm:List (List Bool×Nat)}{C:Nat->Prop}(h:RelG tag w B n ts g vD P K lm)(hK:Keep C w w')(q: ∀b T,tag b=some T->b<w.heap.size->C b):RelG tag w' B n ts g vD P K lm:=by
 have d: ∀b T,tag b=some T->C b:=fun b T e=>q b T e (h.lt b T e);refine⟨h.tagB,hK.heap h.box (d _ _ h.tagB),h.n16,h.nodup,h.right,h.ok,qf h.own hK (fun b e=>d _ _ (h.tagD b e)),h.tagD,h.tagP,h.pmap.keep hK (d _ _ h.tagP),h.tagK,h.kmap.keep hK (d _ _ h.tagK),fun c L p=>?_,h.ents,fun b T e=>zk (h.lt b T e) hK.size⟩;obtain⟨l,t,M,m,s⟩:=h.looks c L p;refine⟨l,t,M,m,s.keep hK (fun b e=>?_) (fun _ _=>rfl) (fun _ _=>rfl)⟩;cases hT:tag b with
 |none=>rw [hT] at e;cases e
 |some T=>exact d b T hT
theorem RelG.len {tag:qb9}{w:World}{B n:Nat}{ts:List (List Int)}{b:List Bool->List (List Int)}{vD:Value}{P K:Nat}{lm:List (List Bool×Nat)}(h:RelG tag w B n ts b vD P K lm): ∀t∈ts,t.length=n:=fun t c=>by
 have:=h.right t c;simp only [qdi,zV,zT]at this;exact this.1
theorem q0n (n:Nat)(m:n<=16)(w:World):Calls prog 91 #[.int .i64 n] w fun e w'=>e=.returned (.tuple #[.pointer (some ⟨w.heap.size+2,0,none⟩),.int .i64 0])/\wE w w'/\
  ∃tag P K,qci tag w' (w.heap.size+2) n [] (.slice none 0 0) P K []/\ ∀b T,tag b=some T->w.heap.size<=b:=by
 have p:(0:Int)<=n:=wA
 have q:(n:Int)<=16:=wA
 have s: ¬((n:Int)<0):=wA
 have u: ¬((16:Int)<n):=wA
 have l:= @run_makeMap prog
 go_enter Tryz.func91,Tryz.ntmps91
 go_wp2
 go_ret2
 refine⟨rfl,(kAl.trans kAl).trans kAl,fun b=>if b=w.heap.size then some .pmap else if b=w.heap.size+1 then some .kmap else if b=w.heap.size+2 then some .box else none,⟨w.heap.size,w.heap.size+1,?_⟩,?_⟩
 ·refine⟨wC,?_,m,nodup_nil,fun t g=>(by cases g),fun t g=>(by cases g),zj _ _ _ _,fun b d=>(by simp [Value.ownBlock] at d),wC,?_,wC,?_,fun c L h=>(by cases h),fun b c d=>?_,fun b T d=>?_⟩
  ·simp only [qar,zO];simp [qfm]
  ·exact((qh4 w).keep (Keep.alloc (fun _=>True) _ _) wF).keep (Keep.alloc (fun _=>True) _ _) trivial
  ·have:=(qh4 (P:=prog) (K:=217) (ek:=qij) (ev:=qk) (w.alloc (.map #[] 0))).keep (Keep.alloc (fun _=>True) _ (.cells (qfm n (.slice none 0 0) 0 w.heap.size (w.heap.size+1)).toArray 209)) trivial
   simpa [qfm]using this
  ·split at d
   ·cases d
   ·split at d
    ·cases d
    ·split at d<;>cases d
  ·simp only [zO];split at d
   ·omega
   ·split at d
    ·omega
    ·split at d
     ·omega
     ·cases d
 ·intro b T d
  replace d:(if b=w.heap.size then some Tag.pmap else if b=w.heap.size+1 then some Tag.kmap else if b=w.heap.size+2 then some Tag.box else none)=some T:=d
  split at d
  ·omega
  ·split at d
   ·omega
   ·split at d
    ·omega
    ·cases d
theorem qym {n:Nat}: ∀{ts:List (List Int)} (h: ∀t∈ts,t.length=n) {i:Nat} {t:List Int} (hi:ts[i]?=some t) {k:Nat} {x:Int} (hk:t[k]?=some x),ts.flatten[i*n+k]?=some x
 | [],_,i,t,hi,_,_,_=>by simp at hi
 |s::ts,h,0,t,hi,k,x,hk=>by
  simp at hi;subst hi;rw [flatten_cons,Nat.zero_mul,zD,yR (zA.1 hk).1];exact hk
 |s::ts,h,i+1,t,hi,k,x,hk=>by
  have hs:s.length=n:=h s wC;rw [flatten_cons,yH (by rw [hs,Nat.succ_mul];omega),hs];have:(i+1)*n+k-n=i*n+k:=by rw [Nat.succ_mul];omega
  rw [this];exact qym (fun t b=>h t (by simp [b])) (by simpa using hi) hk
theorem qpl {n:Nat}: ∀{ts:List (List Int)} (h: ∀t∈ts,t.length=n),ts.flatten.length=ts.length*n
 | [],_=>wC
 |s::ts,h=>by
  rw [flatten_cons,zR,qpl (fun t ht=>h t (by simp [ht])),h s wC,length_cons,Nat.succ_mul];omega
theorem qst {tag:qb9}{w:World}{B n:Nat}{ts:List (List Int)}{vD:Value}{P K:Nat}{lm:List (List Bool×Nat)}(h:qci tag w B n ts vD P K lm)(hl:ts.length<=536870912)(i:Nat)(t:List Int)(hi:ts[i]?=some t):
  Calls prog 180 #[.pointer (some ⟨B,0,none⟩),.int .i64 (i:Int)] w fun e w'=> ∃v,e=.returned v/\wE w w'/\w'.heap.size=w.heap.size/\qay w.heap.size w v t/\t.length=n:=by
 have q:t.length=n:=h.len t (zH hi);have Y:=(zA.1 hi).1;have hn:=h.n16;have hB:=qe h.box;have ae:=qpl h.len;have ab:(i+1)*n<=ts.length*n:=yW n Y;have R:ts.length*n<=536870912*16:=Nat.mul_le_mul hl hn;have af:(i+1)*n=i*n+n:=Nat.succ_mul i n;have c0:=qb h.box 0 _ rfl;have c1:=qb h.box 1 _ rfl;simp only [zD]at c0 c1;obtain⟨U,d,b,rfl,aa,ax⟩: ∃U d b,vD=.slice U d b/\d=ts.flatten.length/\d<=b:=by
  rcases h.own.2 with ⟨e1,e2⟩ |⟨g,cap,cur,e1,e2,e3,e4,e5,_⟩
  ·exact⟨none,0,0,e1,e2.symm,zG _⟩
  ·exact⟨_,_,_,e1,rfl,e4⟩
 obtain⟨lo,z⟩:=ex (i*n);have b0:(0:Int)<=lo:=wA
 have b1:(lo:Int)<=lo+n:=wA
 have b2:(lo:Int)+n<=b:=wA
 have b3:(lo:Int)+n<=8589934592:=wA
 have b4:(lo:Int)<=8589934592:=wA
 have b5:(i:Int)*(n:Int)=lo:=by rw [←z];simp
 have b6:((i:Int)+1)*(n:Int)=lo+n:=by rw [Int.add_mul,b5];omega
 have b7:(i:Int)+1<=536870912:=wA
 have b8:(0:Int)<=i:=wA
 have b9:(lo:Int)+n-lo=n:=wA
 have c:qay w.heap.size w (.slice (if lo+n=lo then U else U.map (·.add (lo*1))) n n) t:=by
  refine⟨_,n,by rw [q],wA,⟨wA,by simp only [maxLen];omega⟩,fun k x hk=>?_⟩;have ay:=(zA.1 hk).1;rw [zF wA];have hf:=qym h.len hi hk;have s:=h.own;rw [←aa]at s;rcases s.2 with ⟨e1,e2⟩ |⟨g,cap,cur,e1,e2,e3,e4,e5,_⟩
  ·have:=(zA.1 hf).1;omega
  ·injection e1 with q1 q2 q3
   subst q1;have:=qbd s (lo+k) (.int .i64 x) (by rw [←z,zP,hf];rfl);refine⟨g,lo,by simp [Addr.add];exact fun e=>e.symm,qe e3,?_⟩
   simpa [qf6]using this
 have m:n=0->qay w.heap.size w (.slice U 0 0) t:=fun h0=>by subst h0;simpa using c
 have p: ¬n=0->qay w.heap.size w (.slice (U.map (·.add lo)) n n) t:=fun h0=>by
  rw [zF wA,yB]at c;exact c
 clear hi Y ae ab R af aa c;refine hd4 ?_ h m p q;clear h m p q;intro Xh u y l
 go_enter Tryz.func180,Tryz.ntmps180
 go_wp2_with fail
 go_region
 clear b0 b1 b2 b3 b4 b5 b6 b7 b8 b9 z c0 c1;go_wp2_with fail
 all_goals go_ret
 ·exact⟨_,rfl,kDr,rfl,u.o wA,l.o⟩
 ·exact⟨_,rfl,kDr,rfl,y.o wA,l.o⟩
end Go.Proofs.R4
namespace Go.Proofs.R4
open Go.RowKit Go.Ink
theorem qxd (ts:List (List Int))(t:List Int):qee (ts++ [t])=qee ts++ [(qa6 t,ts.length)]:=by
 simp [qee,zipIdx_append]
theorem qmb (ts:List (List Int))(i:Nat):(qee ts)[i]?=(ts[i]?).map fun t=>(qa6 t,i):=by
 simp only [qee,zP,getElem?_zipIdx,Option.map_map,zD];cases ts[i]?<;>rfl
theorem qxe {ts:List (List Int)}{t:List Int}{i:Nat}(h:qe7 ts t=some i):ts[i]?=some t:=by
 have:=find?_some h
 simpa using this
theorem qk9 {ts:List (List Int)}{t:List Int}(h:qe7 ts t=none):t∉ts:=by
 intro b;obtain⟨i,hi⟩:=zy.1 b;have:=yn.1 h i (by rw [yi];exact(zA.1 hi).1);simp [hi]at this
theorem qqy {n:Nat}{ts:List (List Int)}{t:List Int}(c: ∀s∈ts,s.length=n)(q:t.length=n)(g:((qee ts).map (·.1)).Nodup):qdd (qee ts) (qa6 t)=qe7 ts t:=by
 cases h:qe7 ts t with
 |some i=>
  have d:=qxe h;exact qo9 g (j:=i) (p:=(qa6 t,i)) (by rw [qmb,d];rfl)
 |none=>
  refine qly fun l=>?_;obtain⟨p,m,e⟩:=yL.1 l;obtain⟨i,hi⟩:=zy.1 m;rw [qmb]at hi;cases b:ts[i]? with
  |none=>rw [b] at hi;cases hi
  |some s=>
   rw [b]at hi;simp only [Option.map_some,yb]at hi;subst hi;have:s=t:=qrk e ((c s (zH b)).trans q.symm);subst this;exact qk9 h (zH b)
theorem qmc {n:Nat}{t:List Int}(h:qdi n t=true):t.length=n:=by
 simp only [qdi,zV,zT]at h;exact h.1
def TagNew (tag tag':qb9)(w:World):Prop:= ∀b T,tag' b=some T->(∃T',tag b=some T')∨w.heap.size<=b
theorem TagNew.refl (tag:qb9)(w:World):TagNew tag tag w:=fun b T h=>.inl ⟨T,h⟩
theorem TagNew.trans {s t u:qb9}{w w':World}(h:TagNew s t w)(g:TagNew t u w')(d:w.heap.size<=w'.heap.size):TagNew s u w:=fun b T c=>by
 rcases g b T c with ⟨T',h1⟩ |h1
 ·exact h b T' h1
 ·exact .inr wA
theorem TagStep.newT {c:List Bool}{tag tag':qb9}{w w':World}(h:TagStep c tag tag' w w'):TagNew tag tag' w:=fun b T d=>by
 rcases yY b w.heap.size with hl |hl
 ·cases hT:tag b with
  |some T'=>exact .inl ⟨T',rfl⟩
  |none=>
   have:=h.old b hl (by rw [hT];exact fun e=>(by cases e));rw [d,hT]at this;cases this
 ·exact .inr hl
theorem q8h {tag:qb9}{w w1 w2 w3 w4:World}{B n:Nat}{ts:List (List Int)}{vD q:Value}{P K:Nat}{lm:List (List Bool×Nat)}(h:qci tag w B n ts vD P K lm){t:List Int}(hr:qdi n t=true)(ap:okT t)(ai:qe7 ts t=none)
  (ag:Keep (fun b=>b<w.heap.size) w w1) (hm:qvc w2 P (setK (qee ts) (qa6 t) ts.length)) (ah:Keep (fun b=>b≠P) w1 w2) (ho:w3.ownsRow 0 3 1 q (ts.flatten.length+t.length) (ts.flatten.map (.int .i64)++t.map (.int .i64)))
  (hg: ∀g,q.ownBlock=some g->vD.ownBlock=some g∨w2.heap.size<=g) (aa:Keep (fun b=>q.ownBlock≠some b) w2 w3) (d:w4.heap[B]?=some (.cells (qfm n q (ts.length+1) P K).toArray 209 (0,0))) (Y:Keep (fun b=>b≠B) w3 w4):
  ∃tag',RelG tag' w4 B n (ts++ [t]) (fun _=>ts) q P K lm/\TagLe tag tag'/\TagNew tag tag' w/\Keep (fun b=>tag b=none) w w4/\(∀b,q.ownBlock≠some b->tag' b=tag b):=by
 have hw:w.heap.size<=w1.heap.size:=ag.size;have aC:=ah.size;have aD:=aa.size;have aE:=Y.size;have z: ∀g,q.ownBlock=some g->(tag g=some .data∨(tag g=none/\w2.heap.size<=g))/\g<w3.heap.size:=fun g af=>by
  refine⟨?_,(zE ho g af).2⟩;rcases hg g af with u |u
  ·exact .inl (h.tagD g u)
  ·refine .inr ⟨?_,u⟩;cases hT:tag g with
   |none=>rfl
   |some T=>have:=h.lt g T hT;omega
 have y:Keep (fun b=>b<w.heap.size/\b≠P/\q.ownBlock≠some b/\b≠B) w w4:=(ag.mono fun b _ h=>h.1).trans ((ah.mono fun b _ h=>h.2.1).trans ((aa.mono fun b _ h=>h.2.2.1).trans (Y.mono fun b _ h=>h.2.2.2)));have R: ∀b T,tag b=some T->T≠.data->q.ownBlock≠some b:=fun b T d hT e=>by
  rcases(z b e).1 with u |⟨u,_⟩
  ·rw [d]at u;cases u;exact hT rfl
  ·rw [d]at u;cases u
 have U: ∀b T,tag b=some T->T≠.data->T≠.pmap->T≠.box->b<w.heap.size/\b≠P/\q.ownBlock≠some b/\b≠B:=fun b T d u h2 h3=>
  ⟨h.lt b T d,fun e=>h2 (by rw [e,h.tagP] at d;cases d;rfl),R b T d u,fun e=>h3 (by rw [e,h.tagB] at d;cases d;rfl)⟩
 have x: ∀b,q.ownBlock≠some b->(fun b=>if q.ownBlock=some b then some Tag.data else tag b) b=tag b:=fun b d=>zF d;refine⟨fun b=>if q.ownBlock=some b then some .data else tag b,?_,?_,?_,?_,x⟩
 ·refine⟨(x B (R B _ h.tagB (fun e=>(by cases e)))).trans h.tagB,?_,h.n16,?_,?_,?_,?_,?_,(x P (R P _ h.tagP (fun e=>(by cases e)))).trans h.tagP,?_,(x K (R K _ h.tagK (fun e=>(by cases e)))).trans h.tagK,?_,?_,?_,?_⟩
  ·rw [zR,length_singleton];exact d
  ·rw [xW];exact⟨h.nodup,wC,fun a ha b d e=>qk9 ai (by simp at d;subst d;rw [←e];exact ha)⟩
  ·intro s v;rcases zr.1 v with v |v
   ·exact h.right s v
   ·simp at v;subst v;exact hr
  ·intro s v;rcases zr.1 v with v |v
   ·exact h.ok s v
   ·simp at v;subst v;exact ap
  ·have:=qf ho Y (fun b ae e=>by rw [e] at ae;exact R B _ h.tagB (fun e=>(by cases e)) ae)
   simpa using this
  ·intro b d;exact zI d
  ·have ab:qa6 t∉(qee ts).map (·.1):=fun ao=>by
    obtain⟨p,hp,he⟩:=yL.1 ao;obtain⟨i,hi⟩:=zy.1 hp;rw [qmb]at hi;cases v:ts[i]? with
    |none=>rw [v] at hi;cases hi
    |some s=>
     rw [v]at hi;simp only [Option.map_some,yb]at hi;subst hi;have:s=t:=qrk he ((h.len s (zH v)).trans (qmc hr).symm);subst this;exact qk9 ai (zH v)
   have aj:setK (qee ts) (qa6 t) ts.length=qee (ts++ [t]):=by
    rw [qxd];unfold setK;rw [zF ab]
   rw [←aj];exact(hm.keep aa (R P _ h.tagP (fun e=>(by cases e)))).keep Y (fun e=>by have:=h.tagP;rw [e,h.tagB] at this;cases this)
  ·exact h.kmap.keep y (U K _ h.tagK (fun e=>(by cases e)) (fun e=>(by cases e)) (fun e=>(by cases e)))
  ·intro c L an;obtain⟨l,vl,M,m,hl⟩:=h.looks c L an;refine⟨l,vl,M,m,hl.keep y (fun b d=>?_) (fun b d=>?_) (fun b d=>?_)⟩
   ·cases hT:tag b with
    |none=>rw [hT] at d;cases d
    |some T=>
     rw [hT]at d;exact U b T hT (fun e=>by subst e;cases d) (fun e=>by subst e;cases d) (fun e=>by subst e;cases d)
   ·refine x b fun e=>?_;rcases(z b e).1 with u |⟨u,_⟩<;>(rw [u] at d;cases d)
   ·by_cases e:q.ownBlock=some b
    ·simp only [zI e]at d;cases d
    ·exact zF e
  ·intro b c d;by_cases e:q.ownBlock=some b
   ·simp only [zI e]at d;cases d
   ·simp only [zF e]at d;exact h.ents b c d
  ·intro b T d;by_cases e:q.ownBlock=some b
   ·have:=(z b e).2;omega
   ·simp only [zF e]at d;have:=h.lt b T d;omega
 ·intro b T d;by_cases e:q.ownBlock=some b
  ·rcases(z b e).1 with u |⟨u,_⟩
   ·rw [d]at u;cases u;exact .inl (zI e)
   ·rw [d]at u;cases u
  ·exact .inl (by rw [←d];exact zF e)
 ·intro b T d;by_cases e:q.ownBlock=some b
  ·rcases(z b e).1 with u |⟨_,u⟩
   ·exact .inl ⟨_,u⟩
   ·exact .inr wA
  ·simp only [zF e]at d;exact .inl ⟨T,d⟩
 ·refine⟨y.os,y.tape,y.output,y.size,fun b d hC=>y.block b d ⟨d,fun e=>?_,fun e=>?_,fun e=>?_⟩⟩
  ·rw [e,h.tagP]at hC;cases hC
  ·rcases(z b e).1 with u |⟨_,u⟩
   ·rw [u]at hC;cases hC
   ·omega
  ·rw [e,h.tagB]at hC;cases hC
theorem RelG.to {tag:qb9}{w:World}{B n:Nat}{ts:List (List Int)}{d tsl':List Bool->List (List Int)}{vD:Value}{P K:Nat}{lm:List (List Bool×Nat)}(h:RelG tag w B n ts d vD P K lm)(e: ∀c L,(c,L)∈lm->d c=tsl' c):RelG tag w B n ts tsl' vD P K lm:=
 {h with looks:=fun c L b=>by rw [←e c L b];exact h.looks c L b}
theorem qyn {n:Nat}{l:List Int}(h:qdz n l=true): ∀i,i<l.length->(i:Int)<=l.getD i 0
 |0,hi=>by
  have:=yM.1 h 0 (by simpa using hi);simp only [qid,zV,zT]at this;exact this.1.1
 |i+1,hi=>by
  have:=yM.1 h (i+1) (by simpa using hi);simp only [qid,zV,zT,y8,xC]at this;have c:=qyn h i wA;rcases this.2 with h2 |h2
  ·omega
  ·have b:i+1-1=i:=by omega
   rw [b]at h2
   push_cast
   omega
theorem qpm {n:Nat}{l:List Int}(h:qdz n l=true):l.length<=n:=by
 rcases Nat.eq_zero_or_pos l.length with h0 |h0
 ·omega
 ·have b:=qyn h (l.length-1) wA;have:=yM.1 h (l.length-1) (by simp;omega);simp only [qid,zV,zT]at this;omega
theorem q6l {tag tag':qb9}{w w':World}{B n:Nat}{ts:List (List Int)}{z tsl':List Bool->List (List Int)}{vD:Value}{P K:Nat}{lm:List (List Bool×Nat)}(h:RelG tag w B n ts z vD P K lm){c:List Bool}{L:Nat}(hc:(c,L)∈lm)(ad:tsl' c=ts)(ae: ∀c',c'≠c->tsl' c'=z c')
  {l:List Int} {vl:Value} {M:Nat} {m:List (List Int×Value)} (hl:LookAt tag' w' n ts c L l vl M m) (v:TagStep c tag tag' w w') (y:Keep (fun b=>qca (tag b)≠some c) w w'):RelG tag' w' B n ts tsl' vD P K lm:=by
 have hold: ∀b T,tag b=some T->qca (some T)≠some c->tag' b=some T:=fun b T d hT=>(v.old b (h.lt b T d) (by rw [d];exact hT)).trans d;have g: ∀b T,tag b=some T->qca (some T)≠some c->qca (tag b)≠some c:=fun b T d hT=>by rw [d];exact hT
 obtain⟨ai,c0,q1,q2,q3,q4,q5⟩:=id h.kmap;have t: ∀u,(c,u)∈lm->u=L:=fun u Y=>by
  obtain⟨i,hi⟩:=zy.1 hc;obtain⟨j,hj⟩:=zy.1 Y;have R:(lm.map (·.1))[i]?=some c:=by rw [zP,hi];rfl
  have U:(lm.map (·.1))[j]?=some c:=by rw [zP,hj];rfl
  have:=(xw (zA.1 R).1 q3).1 (R.trans U.symm);subst this;rw [hi]at hj;cases hj
  rfl
 refine⟨hold B _ h.tagB (fun e=>(by cases e)),y.heap h.box (g B _ h.tagB (fun e=>(by cases e))),h.n16,h.nodup,h.right,h.ok,qf h.own y (fun b d=>g b _ (h.tagD b d) (fun e=>(by cases e))),fun b d=>hold b _ (h.tagD b d) (fun e=>(by cases e)),hold P _ h.tagP (fun e=>(by cases e)),h.pmap.keep y (g P _ h.tagP (fun e=>(by cases e))),hold K _ h.tagK (fun e=>(by cases e)),h.kmap.keep y (g K _ h.tagK (fun e=>(by cases e))),?_,?_,fun b T d=>(v.new b T d).1⟩
 ·intro c' u x;by_cases s:c'=c
  ·subst s;rw [t u x,ad];exact⟨_,_,_,_,hl⟩
  ·rw [ae c' s];obtain⟨l',af,M',m',ab⟩:=h.looks c' u x;refine⟨l',af,M',m',ab.keep y (fun b d=>by rw [d];exact fun e=>s (by injection e)) (fun b d=>?_) (fun b d=>?_)⟩
   ·cases hT:tag b with
    |none=>rw [hT] at d;cases d
    |some T=>exact hold b T hT (by rw [←hT,d];exact fun e=>s (by injection e))
   ·cases hT:tag b with
    |none=>
     cases p:tag' b with
     |none=>rfl
     |some T'=>
      rcases yY b w.heap.size with hlt |hge
      ·have:=v.old b hlt (by rw [hT];exact fun e=>(by cases e));rw [p,hT]at this;cases this
      ·have:=(v.new b T' p).2 hge;rw [←p,d]at this;exact absurd (by injection this) s
    |some T=>
     by_cases q:qca (some T)=some c
     ·rcases v.le b T hT with h1 |⟨c2,k2,p2,p3,rfl,h1,_⟩
      ·rw [h1,q]at d;exact absurd (by injection d with d;exact d.symm) s
      ·rw [h1]at d;have R:c2=c:=by simpa [qca] using q
       have U:c2=c':=by simpa [qca] using d
       exact absurd (U.symm.trans R) s
     ·exact(hold b T hT q)
 ·intro b c' d;rcases v.ents b c' d with h1 |h1
  ·exact h.ents b c' h1
  ·subst h1;exact⟨L,hc⟩
end Go.Proofs.R4
namespace Go.Proofs.R4
open Go.RowKit Go.Ink
attribute [local go_sem] Oper.semAt_some
theorem MapRange.left_eq {κ ν:Type}{P:Program}{K:TypeId}{ek:κ->Value}{ev:ν->Value}{w:World}{b r cnt:Nat}{m:List (κ×ν)}{c:κ->Bool}(h:MapRange P K ek ev w b r m c cnt):w.rangeLeft b r=cnt:=by
 obtain⟨y,d,e,g,x,l,z,U,s,p,q,t,hold,u,v,rfl,R⟩:=h;simp [World.rangeLeft,l,t]
theorem qvd: ∀w:World,(zeroValue 3).run prog w=.ok (.int .i64 0) w:=fun w=>wB
def qqz (tag:qb9)(v:Value):Prop:= ∀a n c,v=.slice (some a) n c->tag a.block=none
theorem qnu {tag:qb9}{C:Nat->Prop}{m:Nat}{w w':World}{v:Value}{t:List Int}(h:qay m w v t)(q:qqz tag v)(hK:Keep C w w')(p: ∀b,tag b=none->b<m->C b):qay m w' v t:=by
 obtain⟨a,c,rfl,e,g,l⟩:=h;refine⟨a,c,rfl,e,g,fun k x s=>?_⟩;obtain⟨b,o,rfl,d,u⟩:=l k x s;exact⟨b,o,rfl,d,hK.cell u (p b (q _ _ _ rfl) d)⟩
theorem q0o {tag:qb9}{w:World}{B n:Nat}{ts:List (List Int)}{vD:Value}{P K:Nat}{lm:List (List Bool×Nat)}(h:qci tag w B n ts vD P K lm)(hl:ts.length<=134217728)(m:Nat)(v:Value)(t:List Int)(hs:qay m w v t)(hm:m<=w.heap.size)(db:okT t)(aU:qqz tag v):
  Calls prog 93 #[.pointer (some ⟨B,0,none⟩),v] w fun e w'=>e=.returned (.tuple #[.int .i64 (qie n ts t).1,.bool (qie n ts t).2.1,.int .i64 (qie n ts t).2.2])/\
   Keep (fun b=>tag b=none) w w'/\ ∃tag' vD',qci tag' w' B n (qk6 n ts t) vD' P K lm/\TagLe tag tag'/\TagNew tag tag' w:=by
 obtain⟨a,c,rfl,bp,eB,cW⟩:=id hs;have hB:=qe h.box;have bM:=h.n16;refine hd5 ?_ h hs cW db aU;clear h hs cW db aU;intro Xh bl d5 aL ap
 go_enter Tryz.func93,Tryz.ntmps93
 go_wp2_with fail;refine(qlz Xh.o.box).mono ?_;rintro e w1 ⟨rfl,bu⟩;have bu:=bu.symm;subst bu;go_wp2_with fail;refine(qsa Xh.o.box m _ t bl.o hm).mono ?_;rintro e W1 ⟨rfl,ao⟩;cases a2:qdi n t with
 |false=>
  have p:qie n ts t=(0,false,2):=by unfold qie;rw [a2];rfl
  have hT:qk6 n ts t=ts:=by unfold qk6;rw [p];rfl
  have hO:=Xh.o.keep ao (fun _ _ _ _=>wF);clear a2;refine hd4 ?_ p hT hO ao;clear p hT hO ao;intro y aG dB ar;go_wp2_with fail
  go_ret3
  exact⟨by rw [y.o];try rfl,ar.o.mt,tag,vD,by rw [aG.o];exact dB.o,TagLe.refl _,TagNew.refl _ _⟩
 |true=>
  have dg:=qmc a2;have a3:=qd8 bl.o (m:=m) ao.mt (zG _);have co:t.length<=16:=wA
  have aT:(qa6 t).length=16:=qhy wA;have bJ: ∃q,keyOf prog 214 (qhn (qa6 t))=some q:=qqx aT (qoj aL.o);obtain⟨k0,k1,k2,k3,k4,k5,k6,k7,k8,k9,Y,aa,ab,ad,ae,af,bO⟩: ∃k0 k1 k2 k3 k4 k5 k6 k7 k8 k9 Y aa ab ad ae af,qa6 t= [k0,k1,k2,k3,k4,k5,k6,k7,k8,k9,Y,aa,ab,ad,ae,af]:=by
   match h:qa6 t,aT with
   | [k0,k1,k2,k3,k4,k5,k6,k7,k8,k9,Y,aa,ab,ad,ae,af],_=>exact⟨k0,k1,k2,k3,k4,k5,k6,k7,k8,k9,Y,aa,ab,ad,ae,af,rfl⟩
  have c0:qhn (qa6 t)=.agg #[.int .i64 k0,.int .i64 k1,.int .i64 k2,.int .i64 k3,.int .i64 k4,.int .i64 k5,.int .i64 k6,.int .i64 k7,.int .i64 k8,.int .i64 k9,.int .i64 Y,.int .i64 aa,.int .i64 ab,.int .i64 ad,.int .i64 ae,.int .i64 af]:=by rw [bO];rfl
  have z1:=ao.size;clear aT bO;refine hd6 ?_ ao a3 bJ c0 a2 dg;clear ao a3 bJ c0 a2 dg;intro ar aq aJ aK aM bF;go_wp2_with fail;refine(qng m _ t W1 aq.o wA co).mono ?_;rintro e W2 ⟨rfl,a5⟩
  replace a5:Keep (fun b=>b<w.heap.size) w W2:=ar.o.mt.trans (a5.mono fun b _ h=>wA)
  obtain⟨W0,cd⟩:=ex (W2.alloc (.cells #[.int .i64 0,.int .i64 0,.int .i64 0,.int .i64 0,.int .i64 0,.int .i64 0,.int .i64 0,.int .i64 0,.int .i64 0,.int .i64 0,.int .i64 0,.int .i64 0,.int .i64 0,.int .i64 0,.int .i64 0,.int .i64 0] 214));obtain⟨nb,cl⟩:=ex (W2.heap.size);have n1:W0.heap[nb]?=some (.cells #[.int .i64 0,.int .i64 0,.int .i64 0,.int .i64 0,.int .i64 0,.int .i64 0,.int .i64 0,.int .i64 0,.int .i64 0,.int .i64 0,.int .i64 0,.int .i64 0,.int .i64 0,.int .i64 0,.int .i64 0,.int .i64 0] 214 (0,0)):=by rw [←cd,←cl];exact qh _ _
  have an:Keep (fun b=>b<w.heap.size) w W0:=by rw [←cd];exact a5.trans kAl
  have s0:nb<W0.heap.size:=qe n1;have dZ:w.heap.size<=nb:=by rw [←cl];exact a5.size
  have z0:=qb n1 0 _ rfl;have f0:=qg n1 0;have z1:=qb n1 1 _ rfl;have f1:=qg n1 1;have z2:=qb n1 2 _ rfl;have f2:=qg n1 2;have z3:=qb n1 3 _ rfl;have f3:=qg n1 3;have z4:=qb n1 4 _ rfl;have f4:=qg n1 4;have z5:=qb n1 5 _ rfl;have f5:=qg n1 5;have z6:=qb n1 6 _ rfl;have f6:=qg n1 6;have z7:=qb n1 7 _ rfl;have f7:=qg n1 7;have z8:=qb n1 8 _ rfl;have f8:=qg n1 8;have z9:=qb n1 9 _ rfl;have f9:=qg n1 9;have dp:=qb n1 10 _ rfl;have dD:=qg n1 10;have dq:=qb n1 11 _ rfl;have dE:=qg n1 11;have dr:=qb n1 12 _ rfl;have dF:=qg n1 12;have ds:=qb n1 13 _ rfl;have dG:=qg n1 13;have dt:=qb n1 14 _ rfl;have dH:=qg n1 14;have du:=qb n1 15 _ rfl;have dI:=qg n1 15;simp only [zD]at z0 z1 z2 z3 z4 z5 z6 z7 z8 z9 dp dq dr ds dt du;rw [aK.o];clear a5;refine hd2 ?_ n1 an;clear n1 an;intro cO aN;go_wp2_with fail;refine q0m (fun W=>W.heap[nb]?=some (.cells #[.int .i64 k0,.int .i64 k1,.int .i64 k2,.int .i64 k3,.int .i64 k4,.int .i64 k5,.int .i64 k6,.int .i64 k7,.int .i64 k8,.int .i64 k9,.int .i64 Y,.int .i64 aa,.int .i64 ab,.int .i64 ad,.int .i64 ae,.int .i64 af] 214 (0,0))/\Keep (fun k=>k<w.heap.size) w W) (w:=qg9 nb [.int .i64 k0,.int .i64 k1,.int .i64 k2,.int .i64 k3,.int .i64 k4,.int .i64 k5,.int .i64 k6,.int .i64 k7,.int .i64 k8,.int .i64 k9,.int .i64 Y,.int .i64 aa,.int .i64 ab,.int .i64 ad,.int .i64 ae,.int .i64 af] 0 W0) ⟨qha [.int .i64 k0,.int .i64 k1,.int .i64 k2,.int .i64 k3,.int .i64 k4,.int .i64 k5,.int .i64 k6,.int .i64 k7,.int .i64 k8,.int .i64 k9,.int .i64 Y,.int .i64 aa,.int .i64 ab,.int .i64 ad,.int .i64 ae,.int .i64 af] cO.o rfl,aN.o.trans ((qe8 _ _ _ _).mono (fun b _ h=>wA))⟩ ?_;clear z0 z1 z2 z3 z4 z5 z6 z7 z8 z9 dp dq dr ds dt du f0 f1 f2 f3 f4 f5 f6 f7 f8 f9 dD dE dF dG dH dI cO aN s0 cl cd ar aq;rintro W3 ⟨hq,dl⟩;obtain⟨Wd,cg⟩:=ex (W3.drew);have a6:Keep (fun k=>k<w.heap.size) w Wd:=by rw [←cg];exact dl.trans kDr
  have d:Wd.heap[nb]?=some (.cells #[.int .i64 k0,.int .i64 k1,.int .i64 k2,.int .i64 k3,.int .i64 k4,.int .i64 k5,.int .i64 k6,.int .i64 k7,.int .i64 k8,.int .i64 k9,.int .i64 Y,.int .i64 aa,.int .i64 ab,.int .i64 ad,.int .i64 ae,.int .i64 af] 214 (0,0)):=by rw [←cg];exact hq
  have hd:=Xh.o.keep a6 (fun b T hb bp=>bp);have r0:=qb d 0 _ rfl;have r1:=qb d 1 _ rfl;have r2:=qb d 2 _ rfl;have r3:=qb d 3 _ rfl;have r4:=qb d 4 _ rfl;have r5:=qb d 5 _ rfl;have r6:=qb d 6 _ rfl;have r7:=qb d 7 _ rfl;have r8:=qb d 8 _ rfl;have r9:=qb d 9 _ rfl;have ay:=qb d 10 _ rfl;have az:=qb d 11 _ rfl;have aA:=qb d 12 _ rfl;have aB:=qb d 13 _ rfl;have aC:=qb d 14 _ rfl;have aD:=qb d 15 _ rfl;simp only [zD]at r0 r1 r2 r3 r4 r5 r6 r7 r8 r9 ay az aA aB aC aD;have b2:=qb hd.box 2 _ rfl;have b3:=qb hd.box 3 _ rfl;simp only [zD]at b2 b3;have am:=qd7 (P:=prog) Tryz.underlying206 qli.law qjz qvd hd.pmap (qa6 t) aJ.o true;have bq:((qee ts).map (·.1)).Nodup:=by
   obtain⟨_,_,_,_,bq,_⟩:=hd.pmap;exact bq
  rw [qqy hd.len bF.o bq,aK.o]at am;have dP:B<Wd.heap.size:=qe hd.box;have c9:nb<Wd.heap.size:=qe d;clear bq hq dl;subst cg;cases ax:qe7 ts t with
  |some i=>
   have p:qie n ts t=((i:Int),false,0):=by unfold qie;rw [aM.o,ax];rfl
   have hT:qk6 n ts t=ts:=by unfold qk6;rw [p];rfl
   rw [ax]at am;simp only [yg]at am;clear ax d;refine hd4 ?_ p hT hd a6;clear p hT hd a6;intro y aG b0 aO
   go_region
   clear r0 r1 r2 r3 r4 r5 r6 r7 r8 r9 ay az aA aB aC aD b3 am;go_wp2_with fail
   go_ret3
   exact⟨by rw [y.o];try rfl,aO.o.mono fun b hb _=>hb,tag,vD,by rw [aG.o];exact b0.o,TagLe.refl _,TagNew.refl _ _⟩
  |none=>
   rw [ax]at am;simp only [yg]at am;refine hd4 ?_ ax d hd a6;clear ax d hd a6;intro bD cI b0 aO
   go_region
   generalize W3.drew=Wd at*;clear am b2 b3 r0 r1 r2 r3 r4 r5 r6 r7 r8 r9 ay az aA aB aC aD;obtain⟨We,ch⟩:=ex (Wd.drew);have aj:Keep (fun k=>k<w.heap.size) w We:=by rw [←ch];exact aO.o.trans kDr
   have s:=Xh.o.keep aj (fun b T hb bp=>bp);have g:We.heap[nb]?=some (.cells #[.int .i64 k0,.int .i64 k1,.int .i64 k2,.int .i64 k3,.int .i64 k4,.int .i64 k5,.int .i64 k6,.int .i64 k7,.int .i64 k8,.int .i64 k9,.int .i64 Y,.int .i64 aa,.int .i64 ab,.int .i64 ad,.int .i64 ae,.int .i64 af] 214 (0,0)):=by rw [←ch];exact cI.o
   have b2:Wd.cell? ⟨B,2,none⟩=some (.int .i64 (ts.length:Int)):=by have:=qb b0.o.box 2 _ rfl;simpa using this
   have b3:=qb s.box 3 _ rfl;have r0:=qb g 0 _ rfl;have r1:=qb g 1 _ rfl;have r2:=qb g 2 _ rfl;have r3:=qb g 3 _ rfl;have r4:=qb g 4 _ rfl;have r5:=qb g 5 _ rfl;have r6:=qb g 6 _ rfl;have r7:=qb g 7 _ rfl;have r8:=qb g 8 _ rfl;have r9:=qb g 9 _ rfl;have ay:=qb g 10 _ rfl;have az:=qb g 11 _ rfl;have aA:=qb g 12 _ rfl;have aB:=qb g 13 _ rfl;have aC:=qb g 14 _ rfl;have aD:=qb g 15 _ rfl;simp only [zD]at b3 r0 r1 r2 r3 r4 r5 r6 r7 r8 r9 ay az aA aB aC aD;have dQ:B<We.heap.size:=qe s.box;have da:nb<We.heap.size:=qe g;obtain⟨W5,dh,c4,ai,d0⟩:=qiu (P:=prog) Tryz.underlying206 qli.law qjz s.pmap (qa6 t) aJ.o ts.length;rw [aK.o]at dh;have cV:B≠P:=fun e=>by have:=s.tagB;rw [e,s.tagP] at this;cases this
   have aQ:=ai.heap s.box cV;have aX:=qf s.own ai (fun b hb e=>by have:=s.tagD b hb;rw [e,s.tagP] at this;cases this);have dk:Keep (fun b=>tag b=none) w W5:=⟨ai.os.trans aj.os,ai.tape.trans aj.tape,ai.output.trans aj.output,zW aj.size ai.size,fun b hb hC=>(ai.block b (zk hb aj.size) (fun e=>by rw [e,Xh.o.tagP] at hC;cases hC)).trans (aj.block b hb hb)⟩;have df:=qnu bl.o ap.o dk (fun b hb _=>hb);have ah:=qgj (sz:=1) ic (fun _=>rfl) wA (E:=qf6) (fun b o x h j u hj=>by
    have dU:j=0:=by have:=(zA.1 hj).1;simp [ic] at this;exact this
    subst dU;simp [ic]at hj;subst hj;exact h) df rfl
   have cX:=qpl s.len;have cY:ts.flatten.length<=134217728*16:=by rw [cX];exact Nat.mul_le_mul hl bM
   obtain⟨vD',W6,dc,br,ci,cq⟩:=qhx (P:=prog) qnf 125 aX a t.length c (t.flatMap ic) (qa4 _ 1 (fun _=>rfl) _) ah.1 ah.2 (qjy _ (by simp [ic,Value.oneCell']) _) wA (ya _);rw [qne]at br;obtain⟨z,U,R,rfl⟩: ∃z U R,vD'=.slice z U R:=by
    obtain⟨a1,c1,e⟩:=qi br;exact⟨_,_,_,e⟩
   have cP:Value.ownBlock (.slice z U R)≠some B:=fun e=>by
    rcases ci B e with h1 |h1
    ·have:=s.tagD B h1;rw [s.tagB] at this;cases this
    ·have:=qe aQ;omega
   have aR:=cq.heap aQ cP;obtain⟨W7,ce⟩:=ex (W6.setCell ⟨B,1,none⟩ (.slice z U R));have aS:W7.heap[B]?=some (.cells (([.int .i64 (n:Int),(.slice z U R),.int .i64 (ts.length:Int),.map (some P),.map (some K)]:List Value)).toArray 209 (0,0)):=by rw [←ce];exact qaj 1 (.slice z U R) aR
   obtain⟨W8,cf⟩:=ex (W7.setCell ⟨B,2,none⟩ (.int .i64 ((ts.length:Int)+1)));have bm:W8.heap[B]?=some (.cells (qfm n (.slice z U R) (ts.length+1) P K).toArray 209 (0,0)):=by rw [←cf];exact qaj 2 (.int .i64 ((ts.length:Int)+1)) aS
   have dm:Keep (fun b=>b≠B) W6 W8:=by rw [←cf,←ce];exact(kSc).trans (kSc)
   obtain⟨aw,cT,bL,aW,cp,bt⟩:=q8h Xh.o aM.o aL.o bD.o aj c4 ai br ci cq bm dm;have c5:W5.cell? ⟨B,1,none⟩=some vD:=by have:=qb aQ 1 _ rfl;simpa using this
   have c6:W6.cell? ⟨B,1,none⟩=some vD:=by have:=qb aR 1 _ rfl;simpa using this
   have f6:=qg aR 1;have c7:W7.cell? ⟨B,2,none⟩=some (.int .i64 (ts.length:Int)):=by have:=qb aS 2 _ rfl;simpa using this
   have f7:=qg aS 2;have c8:W8.cell? ⟨B,4,none⟩=some (.map (some K)):=by have:=qb bm 4 _ rfl;simpa using this
   have dL:=qe aQ;have dM:=qe aR;have dN:=qe aS;have dO:=qe bm;have dV:(ts.length:Int)+1<=536870912:=wA
   have p:qie n ts t=((ts.length:Int),true,0):=by unfold qie;rw [aM.o,bD.o];rfl
   have hT:qk6 n ts t=ts++ [t]:=by unfold qk6;rw [p];rfl
   have dY:w.heap.size<=W8.heap.size:=cp.size;subst ch;clear aj s g c4 ai aX dk df ah cX cY br ci cq aQ aR aS bm dm cV cP d0 bt;refine hd7 ?_ dc cT aW bL cp p hT;clear dc cT aW bL cp p hT;intro cJ aF bk b5 cN y aG;go_wp2_with fail
   go_region
   clear r0 r1 r2 r3 r4 r5 r6 r7 r8 r9 ay az aA aB aC aD b3 b2;have bI:=aF.o.kmap;refine hd1 ?_ bI;clear bI;intro aI;clear bu z1 dP c9 dZ dV;go_wp2_with (first
    |(at_builtin;refine qbo (v:=vD) (u:=.slice a t.length c) (v':=(.slice z U R)) (w':=W6) rfl (.tmp 47) (.tmp 48) 125 rfl rfl rfl cJ.o ?_)
    |(at_range;refine qzr rfl _ 207 rfl Tryz.underlying207 rfl aI.o ?_;intro w0 aY an di))
   go_frame
   have d1:w0.heap.size=W8.heap.size+1:=di;obtain⟨rb,bs⟩:=ex (W8.heap.size);rw [bs]at aY;rw [bs];have ef:w.heap.size<=rb:=wA
   have dj:Keep (fun b=>tag b=none) w w0:=cN.o.trans an.mt;have cR:RelG aw w0 B n (ts++ [t]) (fun c=>if (fun _:List Bool=>true) c then ts else ts++ [t]) (.slice z U R) P K lm:=(aF.o.keep an (fun _ _ _ _=>wF)).to (fun _ _ _=>rfl);have bQ:aw rb=none:=by
    cases dR:aw rb with
    |none=>rfl
    |some T=>have:=aF.o.lt rb T dR;omega
   clear c5 c6 f6 c7 f7 c8 dL dM dN dO ce cf dh aI di d1 dY dQ da;refine hd6 ?_ aY dj cR bQ bs an;clear aY dj cR bQ bs an;intro b8 cM cF b7 d9 aN
   go_loopw [12] (fun _ wr=> ∃av cnt tag',MapRange prog 217 qij qk wr K rb lm av cnt/\RelG tag' wr B n (ts++ [t]) (fun c=>if av c then ts else ts++ [t]) (.slice z U R) P K lm/\TagLe tag tag'/\TagNew tag tag' w/\Keep (fun b=>tag b=none/\b<w.heap.size) w wr/\tag' rb=none)
    (fun _ wr=>wr.rangeLeft K rb)
   case atStart=>exact⟨_,_,aw,b8.o,cF.o,b5.o,bk.o,cM.o.mono (fun b _ h=>h.1),b7.o⟩
   case round=>
    obtain⟨av,cnt,tag',cn,hG,c2,bN,cZ,bR⟩:=hrel;have de:=MapRange.left_eq cn;refine hd7 ?_ hG c2 bN cZ bR cn de;clear hG c2 bN cZ bR cn de;intro cD bz al bx ag cK cL;go_wp2_with (at_next;refine q2e rfl _ rfl rfl cK.o ?_ ?_)
    ·intro eA cj;have cQ:qci tag' wr B n (ts++ [t]) (.slice z U R) P K lm:=cD.o.to (fun c L ah=>by rw [cj _ _ ah];rfl);refine hd2 ?_ cj cQ;clear cj cQ;intro d7 cE;go_wp2_with fail
     go_ret3
     exact⟨by rw [y.o];try rfl,bx.o.mono (fun b hb h=>⟨h,hb⟩),tag',_,by rw [aG.o];exact cE.o,bz.o,al.o⟩
    ·intro cm L w1 ea ah ck aZ c3 bn eF eC;have cc:=cD.o.keep bn (fun b T hb _ e=>by subst e;have:=ag.o;rw [hb] at this;cases this);obtain⟨l,vl,M,mm,cU⟩:=cc.looks cm L ah;have aP:LookAt tag' w1 n ts cm L l vl M mm:=by simpa [ck] using cU
     have au:Keep (fun b=>tag b=none/\b<w.heap.size) w w1:=bx.o.trans (bn.mono fun b _ h=>by have:=h.2;omega);have a3:qay w1.heap.size w1 (.slice a t.length c) t:=qqc (qnu bl.o ap.o au (fun b hb ez=>⟨hb,wA⟩)) (by have:=au.size;omega);have dW:l.length<=16:=by have:=qpm aP.row;omega
     have dd:=aZ.lt;clear cU;refine hd8 ?_ ah ck aZ bn cc aP au a3;clear ah ck aZ bn cc aP au a3;intro cH d8 b9 d6 aE bW aH aq;go_wp2_with fail;refine(qvb bW.o aE.o.lt bM wA _ t aq.o bF.o aL.o dW).mono ?_;rintro e w2 ⟨rfl,a7,m',bG,a4,bo⟩;have cS:=q6l (tsl':=fun x=>if (av x&&!decide (x=cm))=true then ts else ts++ [t]) aE.o cH.o wC (fun c' dS=>by simp [dS]) bG a4 bo;have a0:=b9.o.keep bo (by rw [aE.o.tagK];exact fun e=>(by cases e)) (by rw [ag.o];exact fun e=>(by cases e));have bS:=MapRange.left_eq a0;have bK:=bz.o.trans a4.le;have aV:=al.o.trans a4.newT aH.o.size;have bH:Keep (fun b=>tag b=none/\b<w.heap.size) w w2:=aH.o.trans (bo.mono fun b _ h=>by
      cases hT:tag' b with
      |none=>exact fun e=>(by cases e)
      |some T=>
       rcases al.o b T hT with ⟨T',h1⟩ |h1
       ·rw [h.1]at h1;cases h1
       ·have:=h.2;omega)
     have bP:a7 rb=none:=(a4.old rb dd (by rw [ag.o];exact fun e=>(by cases e))).trans ag.o;clear bG a4 bo;refine hd7 ?_ cS a0 bS bK aV bH bP;clear cS a0 bS bK aV bH bP;intro cG ca cb b4 bj b1 b6;go_wp2_with fail;go_roundw
     case rel=>exact⟨_,_,a7,ca.o,cG.o,b4.o,bj.o,b1.o,b6.o⟩
     case measure=>rw [cb.o,cL.o];exact c3
end Go.Proofs.R4
