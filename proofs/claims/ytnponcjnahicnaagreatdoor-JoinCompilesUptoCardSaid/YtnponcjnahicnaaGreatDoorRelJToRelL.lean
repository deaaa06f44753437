/- Parts of the proof. -/
import Derived.Test.YtnponcjnahicnaaGreatDoorIterBToRelI
set_option linter.unusedSimpArgs false
set_option linter.unusedVariables false
set_option maxRecDepth 100000
set_option maxHeartbeats 4000000
open Go.Proofs.Tryz(prog)
open List(eq_of_mem_replicate filter_congr filter_eq_nil_iff getElem_cons_succ getElem_cons_zero getElem_toArray length_singleton mapM_cons map_set replicate_succ set_append_right set_cons_succ set_cons_zero singleton_append)
namespace Go.Proofs.R4
open Go.RowKit Go.Ink
attribute [local go_sem] Oper.semAt_some
def qd6 (t l:List Int):List Int:=l.map fun c=>t.getD c.toNat 0
def qb4 (t l:List Int):List Int:=qay (qd6 t l)
theorem qjg (t l:List Int):(qd6 t l).length=l.length:=by simp [qd6]
theorem q4f {t:List Int}(x:Int)(h:t.length<16):((qay t).map (Value.int .i64)).toArray.setIfInBounds t.length (.int .i64 x)=((qay (t++ [x])).map (.int .i64)).toArray:=by
 apply Array.ext';simp only [Array.toList_setIfInBounds,←map_set]
 congr 1
 unfold qay;have:16-t.length=(16-(t++ [x]).length)+1:=by simp;omega
 rw [this,replicate_succ,set_append_right _ _ (zG _),xX,set_cons_zero,yq,singleton_append]
theorem q4g (w:World)(v vl:Value)(t l:List Int)(hs:qan w.heap.size w v t)(hl:qan w.heap.size w vl l)(U:l.length<=16)(aG: ∀c∈l,0<=c/\c<t.length):
  Calls prog 174 #[v,vl] w fun e w'=>e=.returned (qgu (qb4 t l))/\Keep (fun k=>k<w.heap.size) w w':=by
 obtain⟨a,c,rfl,b5,b1,aF⟩:=id hs;obtain⟨a2,c2,rfl,bk,bh,aq⟩:=id hl;obtain⟨W0,an⟩:=ex ((w.alloc (.cells #[.int .i64 0,.int .i64 0,.int .i64 0,.int .i64 0,.int .i64 0,.int .i64 0,.int .i64 0,.int .i64 0,.int .i64 0,.int .i64 0,.int .i64 0,.int .i64 0,.int .i64 0,.int .i64 0,.int .i64 0,.int .i64 0] 214)).alloc (.cells #[.int .i64 0,.int .i64 0,.int .i64 0,.int .i64 0,.int .i64 0,.int .i64 0,.int .i64 0,.int .i64 0,.int .i64 0,.int .i64 0,.int .i64 0,.int .i64 0,.int .i64 0,.int .i64 0,.int .i64 0,.int .i64 0] 214));have aJ:wD w W0:=by rw [←an];exact kAl.trans kAl
 have s0:W0.heap.size=w.heap.size+1+1:=by rw [←an];simp
 have n1:W0.heap[w.heap.size]?=some (.cells #[.int .i64 0,.int .i64 0,.int .i64 0,.int .i64 0,.int .i64 0,.int .i64 0,.int .i64 0,.int .i64 0,.int .i64 0,.int .i64 0,.int .i64 0,.int .i64 0,.int .i64 0,.int .i64 0,.int .i64 0,.int .i64 0] 214 (0,0)):=by rw [←an];exact qec (qh _ _) _
 have n2:W0.heap[w.heap.size+1]?=some (.cells ((qay (qd6 t (l.take 0))).map (.int .i64)).toArray 214 (0,0)):=by rw [←an];simp only [qah,zO];simp;rfl
 refine hd8 ?_ hs hl aF aq aG n1 n2 aJ;clear hs hl aF aq aG n1 n2 aJ;intro bF bD aC au aD aS aT aE
 go_enter Tryz.func174,Tryz.ntmps174
 go_wp2_with fail
 go_loopw [10] (fun i wr=> ∃k:Nat,k<=l.length/\i=.int .i64 k/\Keep (fun j=>j≠w.heap.size+1) W0 wr/\wr.heap[w.heap.size+1]?=some (.cells ((qay (qd6 t (l.take k))).map (.int .i64)).toArray 214 (0,0))) (fun i _=>l.length-(intOf i).toNat)
 case atStart=>exact⟨0,xz,rfl,Keep.refl _ _,aT.o⟩
 case round=>
  obtain⟨k,hk,rfl,hK,g⟩:=hrel;have bl:=hK.size;have R:Keep (fun j=>j<w.heap.size) w wr:=(aE.o.mt).trans (hK.mono fun b _ h=>xz);by_cases aH:k<l.length
  ·obtain⟨x,hx⟩: ∃x,l[k]?=some x:=⟨_,zB aH⟩;have ab:=aD.o x (zH hx);obtain⟨y,hy⟩: ∃y,t[x.toNat]?=some y:=⟨_,zB xz⟩;obtain⟨b2,o2,rfl,a0,ay⟩:=au.o k x hx;obtain⟨b,o,rfl,hb,az⟩:=aC.o x.toNat y hy;have ay:=R.cell ay a0;have az:=R.cell az hb;simp only [yA]at ay az;have f:b<wr.heap.size:=by omega
   have bg:b2<wr.heap.size:=xz
   have bj:(k:Int)<l.length:=xz
   have b4:(0:Int)<=k:=xz
   have b7:0<=x:=ab.1;have b8:x<t.length:=ab.2;have bi:(k:Int)<16:=xz
   have a5:w.heap.size+1<wr.heap.size:=xz
   have aI:(qd6 t (l.take k)).length=k:=by rw [qjg,yB];omega
   have aa:=qz k (.int .i64 y) g;have X:qd6 t (l.take (k+1))=qd6 t (l.take k)++ [y]:=by
    unfold qd6;rw [zh,hx];simp [zJ,hy]
   have ax:=q4f y (t:=qd6 t (l.take k)) xz;rw [aI]at ax;rw [ax,←X]at aa;have b3:wr.frozen? ⟨w.heap.size+1,k,none⟩=false:=by simp [World.frozen?,g]
   obtain⟨u0,b6⟩: ∃u0,wr.cell? ⟨w.heap.size+1,k,none⟩=some u0:=by
    have a3:k<((qay (qd6 t (l.take k))).map (Value.int .i64)).length:=by rw [zL,qg6 xz];omega
    have:=qb g k _ (by exact zB a3);rw [zD]at this;exact⟨_,this⟩
   have b9:(x.toNat:Int)=x:=xz
   clear ax X aI g hx hy ab;refine hd3 ?_ aa hK R;clear aa hK R;intro av aB ao;go_wp2_with fail;go_roundw
   case rel=>exact⟨k+1,xz,by go_num,aB.o.trans (kSc),av.o⟩
   case measure=>simp [intOf];omega
  ·obtain rfl:k=l.length:=by omega
   rw [zi]at g;have aw:(qd6 t l).length<=16:=by rw [qjg];exact U
   obtain⟨k0,k1,k2,k3,k4,k5,k6,k7,k8,k9,m,p,q,r,s,u,Y⟩: ∃k0 k1 k2 k3 k4 k5 k6 k7 k8 k9 m p q r s u,qay (qd6 t l)= [k0,k1,k2,k3,k4,k5,k6,k7,k8,k9,m,p,q,r,s,u]:=by
    have U:=qg6 aw
    match h:qay (qd6 t l),U with
    | [k0,k1,k2,k3,k4,k5,k6,k7,k8,k9,m,p,q,r,s,u],_=>exact⟨k0,k1,k2,k3,k4,k5,k6,k7,k8,k9,m,p,q,r,s,u,rfl⟩
   have ap:qgu (qb4 t l)=.agg #[.int .i64 k0,.int .i64 k1,.int .i64 k2,.int .i64 k3,.int .i64 k4,.int .i64 k5,.int .i64 k6,.int .i64 k7,.int .i64 k8,.int .i64 k9,.int .i64 m,.int .i64 p,.int .i64 q,.int .i64 r,.int .i64 s,.int .i64 u]:=by unfold qb4;rw [Y];rfl
   rw [Y]at g;have f:wr.heap[w.heap.size+1]?=some (.cells #[.int .i64 k0,.int .i64 k1,.int .i64 k2,.int .i64 k3,.int .i64 k4,.int .i64 k5,.int .i64 k6,.int .i64 k7,.int .i64 k8,.int .i64 k9,.int .i64 m,.int .i64 p,.int .i64 q,.int .i64 r,.int .i64 s,.int .i64 u] 214 (0,0)):=g;have d:=hK.heap aS.o xz;have c0:=qb f 0 _ rfl;have z0:=qb d 0 _ rfl;have f0:=qg d 0;have c1:=qb f 1 _ rfl;have z1:=qb d 1 _ rfl;have f1:=qg d 1;have c2:=qb f 2 _ rfl;have z2:=qb d 2 _ rfl;have f2:=qg d 2;have c3:=qb f 3 _ rfl;have z3:=qb d 3 _ rfl;have f3:=qg d 3;have c4:=qb f 4 _ rfl;have z4:=qb d 4 _ rfl;have f4:=qg d 4;have c5:=qb f 5 _ rfl;have z5:=qb d 5 _ rfl;have f5:=qg d 5;have c6:=qb f 6 _ rfl;have z6:=qb d 6 _ rfl;have f6:=qg d 6;have c7:=qb f 7 _ rfl;have z7:=qb d 7 _ rfl;have f7:=qg d 7;have c8:=qb f 8 _ rfl;have z8:=qb d 8 _ rfl;have f8:=qg d 8;have c9:=qb f 9 _ rfl;have z9:=qb d 9 _ rfl;have f9:=qg d 9;have aU:=qb f 10 _ rfl;have a7:=qb d 10 _ rfl;have bQ:=qg d 10;have aV:=qb f 11 _ rfl;have a8:=qb d 11 _ rfl;have bR:=qg d 11;have aW:=qb f 12 _ rfl;have a9:=qb d 12 _ rfl;have bS:=qg d 12;have aX:=qb f 13 _ rfl;have ba:=qb d 13 _ rfl;have bU:=qg d 13;have aY:=qb f 14 _ rfl;have bb:=qb d 14 _ rfl;have bV:=qg d 14;have aZ:=qb f 15 _ rfl;have bc:=qb d 15 _ rfl;have bW:=qg d 15;simp only [zD]at c0 z0 c1 z1 c2 z2 c3 z3 c4 z4 c5 z5 c6 z6 c7 z7 c8 z8 c9 z9 aU a7 aV a8 aW a9 aX ba aY bb aZ bc;have l1:w.heap.size<wr.heap.size:=xz
   have l2:w.heap.size+1<wr.heap.size:=xz
   clear g Y f;refine hd4 ?_ d R ap hK;clear d R ap hK;intro aA ao ar aB;go_wp2_with fail;refine qi1 (fun W=>W.heap[w.heap.size]?=some (.cells #[.int .i64 k0,.int .i64 k1,.int .i64 k2,.int .i64 k3,.int .i64 k4,.int .i64 k5,.int .i64 k6,.int .i64 k7,.int .i64 k8,.int .i64 k9,.int .i64 m,.int .i64 p,.int .i64 q,.int .i64 r,.int .i64 s,.int .i64 u] 214 (0,0))/\Keep (fun k=>k<w.heap.size) w W) (w:=qgk w.heap.size [.int .i64 k0,.int .i64 k1,.int .i64 k2,.int .i64 k3,.int .i64 k4,.int .i64 k5,.int .i64 k6,.int .i64 k7,.int .i64 k8,.int .i64 k9,.int .i64 m,.int .i64 p,.int .i64 q,.int .i64 r,.int .i64 s,.int .i64 u] 0 wr) ⟨qgl [.int .i64 k0,.int .i64 k1,.int .i64 k2,.int .i64 k3,.int .i64 k4,.int .i64 k5,.int .i64 k6,.int .i64 k7,.int .i64 k8,.int .i64 k9,.int .i64 m,.int .i64 p,.int .i64 q,.int .i64 r,.int .i64 s,.int .i64 u] aA.o rfl,ao.o.trans ((qeh _ _ _ _).mono (fun b _ h=>xz))⟩ ?_;rintro W2 ⟨z,kq⟩;have r0:=qb z 0 _ rfl;have r1:=qb z 1 _ rfl;have r2:=qb z 2 _ rfl;have r3:=qb z 3 _ rfl;have r4:=qb z 4 _ rfl;have r5:=qb z 5 _ rfl;have r6:=qb z 6 _ rfl;have r7:=qb z 7 _ rfl;have r8:=qb z 8 _ rfl;have r9:=qb z 9 _ rfl;have aK:=qb z 10 _ rfl;have aL:=qb z 11 _ rfl;have aM:=qb z 12 _ rfl;have aN:=qb z 13 _ rfl;have aO:=qb z 14 _ rfl;have aP:=qb z 15 _ rfl;simp only [zD]at r0 r1 r2 r3 r4 r5 r6 r7 r8 r9 aK aL aM aN aO aP;clear z;refine hd1 ?_ kq;clear kq;intro aR;refine zz (v:=.agg #[.int .i64 k0,.int .i64 k1,.int .i64 k2,.int .i64 k3,.int .i64 k4,.int .i64 k5,.int .i64 k6,.int .i64 k7,.int .i64 k8,.int .i64 k9,.int .i64 m,.int .i64 p,.int .i64 q,.int .i64 r,.int .i64 s,.int .i64 u]) (by simp [results,Tryz.results174,go_sem,r0,r1,r2,r3,r4,r5,r6,r7,r8,r9,aK,aL,aM,aN,aO,aP]) rfl ⟨by rw [ar.o],aR.o⟩
end Go.Proofs.R4
namespace Go.Proofs.R4
open Go.RowKit Go.Ink Go.WideMaps
def okI (x:Int):Prop:= -9223372036854775808<=x/\x<=9223372036854775807
def okT (t:List Int):Prop:= ∀x∈t,okI x
theorem qki:ArrKey prog 214 3 16:=⟨Tryz.underlying214,wA,wA,wA⟩
theorem qpv:ArrKey prog 217 4 16:=⟨Tryz.underlying217,wA,wA,wA⟩
theorem qk7: ∃m,prog.types.size=m+1:=⟨prog.types.size-1,by
 have:0<prog.types.size:=yD wA;omega⟩
theorem qqt {α β:Type}(f:α->Option β): ∀L:List α,(∀i∈L,∃x,f i=some x)-> ∃xs,L.mapM f=some xs
 | [],_=>⟨[],rfl⟩
 |i::L,h=>by
  obtain⟨x,hx⟩:=h i wB;obtain⟨xs,b⟩:=qqt f L (fun j c=>h j (by simp [c]));exact⟨x::xs,by rw [mapM_cons,hx,b];rfl⟩
theorem qqu {P:Program}{k e:TypeId}{n:Nat}(A:ArrKey P k e n)(b: ∃m,P.types.size=m+1)(vs:List Value)(f:vs.length=n)(h: ∀v∈vs,∃l,∀D,P.keyLits (D+1) e [v]=some l): ∃l,keyOf P k (.agg vs.toArray)=some l:=by
 have c:=A.keyType b;obtain⟨m,p⟩:=b;unfold keyOf;simp only [A.hu];rw [zI (by simp [c,Value.formed,A.hu,A.size,f]),p];unfold Program.keyLits;simp only [A.hu,Value.cells];rw [zI (by rw [A.size];exact f)];obtain⟨xs,d⟩:=qqt (fun i=>P.keyLits (m+1) e ((vs.drop (i*P.cellsOf e)).take (P.cellsOf e))) (List.range n) (fun i hi=>by
  rw [A.one,yA];have hi:=yh.1 hi;have g:(vs.drop i).take 1= [vs[i]' xz]:=by
   rw [zr xz]
   rfl
  rw [g];obtain⟨l,j⟩:=h _ (xD (by omega:i<vs.length));exact⟨l,j m⟩)
 simp only [d];exact⟨_,rfl⟩
theorem qo6 {k:List Int}(b:k.length=16)(h:okT k): ∃l,keyOf prog 214 (qgu k)=some l:=
 qqu qki qk7 _ (by simp [b]) (fun v c=>by
  obtain⟨x,e,rfl⟩:=yK.1 c;have:=h x e;refine⟨[.int .i64 x],fun D=>?_⟩;unfold Program.keyLits;have d:(Lit.int .i64 x).wf=true:=by
   simp only [Lit.wf,zV,zT];exact this
  simp only [Tryz.underlying3,d,and_self,yg])
def qhx (c:List Bool):Value:=.agg (c.map .bool).toArray
theorem qs7: ∀a b:List Bool,qhx a=qhx b->a=b:=by
 intro a b h;unfold qhx at h;injection h with h
 have c:a.map Value.bool=b.map .bool:=by simpa using yM Array.toList h
 clear h
 induction a generalizing b with
 |nil=>cases b with
  |nil=>rfl
  |cons y b=>simp at c
 |cons x a ih=>cases b with
  |nil=>simp at c
  |cons y b=>
   simp only [yW,List.cons.injEq,Value.bool.injEq]at c;rw [c.1,ih b c.2]
theorem q5l {c:List Bool}(b:c.length=16): ∃l,keyOf prog 217 (qhx c)=some l:=
 qqu qpv qk7 _ (by simp [b]) (fun v d=>by
  obtain⟨x,e,rfl⟩:=yK.1 d;refine⟨[.bool x],fun D=>?_⟩;unfold Program.keyLits;rw [Tryz.underlying4])
theorem qm0 {t:List Int}(h:okT t):okT (qay t):=by
 intro x b;unfold qay at b;rcases zn.1 b with b |b
 ·exact h x b
 ·have:=eq_of_mem_replicate b;subst this;exact⟨wC,wC⟩
theorem q4h {t l:List Int}(h:okT t):okT (qd6 t l):=by
 intro x b;unfold qd6 at b;obtain⟨c,_,rfl⟩:=yK.1 b;rw [zJ];cases d:t[c.toNat]? with
 |none=>exact⟨wC,wC⟩
 |some y=>exact h y (zH d)
inductive Tag where
 |box |data |pmap |kmap
 |lbox (c:List Bool) |llist (c:List Bool) |lmap (c:List Bool)
 |ent (c:List Bool) (k:List Int) (p:Nat)
abbrev qbu:=Nat->Option Tag
def qbw:Option Tag->Option (List Bool)
 |some (.lbox c) |some (.llist c) |some (.lmap c) |some (.ent c _ _)=>some c
 |_=>none
def TagLe (s t:qbu):Prop:= ∀b T,s b=some T->t b=some T∨ ∃c k p q,T=.ent c k p/\t b=some (.ent c k q)/\p<=q
theorem TagLe.refl (s:qbu):TagLe s s:=fun _ _ h=>.inl h
theorem TagLe.trans {s t u:qbu}(h:TagLe s t)(g:TagLe t u):TagLe s u:=by
 intro b T d;rcases h b T d with h1 |⟨c,k,p,q,rfl,h1,hpq⟩
 ·exact g b T h1
 ·rcases g b _ h1 with h2 |⟨c2,k2,p2,q2,h3,h2,hpq2⟩
  ·exact .inr ⟨c,k,p,q,rfl,h2,hpq⟩
  ·cases h3;exact .inr ⟨c,k,p,q2,rfl,h2,xz⟩
def qap (l:List Int):List Bool:=(List.range 16).map fun i:Nat=>decide ((i:Int)∈l)
def idx (ts:List (List Int))(l k:List Int):List Nat:=(List.range ts.length).filter fun i=>decide (qb4 (ts.getD i []) l=k)
theorem qkj (ts:List (List Int))(t l k:List Int):idx (ts++ [t]) l k=idx ts l k++(if qb4 t l=k then [ts.length] else []):=by
 unfold idx;rw [zR,length_singleton,xw,yS]
 congr 1
 ·refine filter_congr fun i hi=>?_;rw [yh]at hi;rw [zJ,zJ,yQ hi]
 ·by_cases b:qb4 t l=k
  ·simp [ye,zJ,b]
  ·simp [ye,zJ,b]
theorem qvx (ts:List (List Int))(l k:List Int):(idx ts l k).length<=ts.length:=by
 unfold idx;exact zW (yd _ _) wB
abbrev qhy (i:Nat):Value:=.int .i64 (i:Int)
abbrev qz4 (w:World)(M:Nat)(m:List (List Int×Value)):Prop:=MapIn prog 214 qgu (fun v:Value=>v) w M m
structure LookAt (tag:qbu)(w:World)(n:Nat)(ts:List (List Int))(c:List Bool)(L:Nat)(l:List Int)(vl:Value)(M:Nat)(m:List (List Int×Value)):Prop where
 row:qdf n l=true
 mask:qap l=c
 tagL:tag L=some (.lbox c)
 box:w.heap[L]?=some (.cells #[vl,.map (some M)] 268 (0,0))
 tagM:tag M=some (.lmap c)
 map:qz4 w M m
 list:w.ownsRow 0 3 1 vl l.length (l.map (.int .i64))
 tagl: ∀b,vl.ownBlock=some b->tag b=some (.llist c)
 keys: ∀k,k∈m.map (·.1)↔ ∃t∈ts,qb4 t l=k
 few:m.length<=ts.length
 ents: ∀k v,(k,v)∈m->w.ownsRow 0 3 1 v (idx ts l k).length ((idx ts l k).map qhy)/\ ∀b,v.ownBlock=some b->tag b=some (.ent c k (idx ts l k).length)
 blocks: ∀b k p,tag b=some (.ent c k p)-> ∀j,j<p-> ∃i,(idx ts l k)[j]?=some i/\w.cell? ⟨b,j,none⟩=some (qhy i)
theorem LookAt.keep {tag tag':qbu}{w w':World}{n:Nat}{ts:List (List Int)}{c:List Bool}{L M:Nat}{l:List Int}{u:Value}{m:List (List Int×Value)}{C:Nat->Prop}(h:LookAt tag w n ts c L l u M m)(hK:Keep C w w')(e: ∀b,qbw (tag b)=some c->C b)(g: ∀b,qbw (tag b)=some c->tag' b=tag b)(t: ∀b,qbw (tag' b)=some c->tag' b=tag b):LookAt tag' w' n ts c L l u M m:=by
 have y:qbw (tag L)=some c:=by rw [h.tagL];rfl
 have z:qbw (tag M)=some c:=by rw [h.tagM];rfl
 have R: ∀b,u.ownBlock=some b->qbw (tag b)=some c:=fun b d=>by rw [h.tagl b d];rfl
 refine⟨h.row,h.mask,(g L y).trans h.tagL,hK.heap h.box (e L y),(g M z).trans h.tagM,h.map.keep hK (e M z),qf h.list hK (fun b d=>e b (R b d)),fun b d=>(g b (R b d)).trans (h.tagl b d),h.keys,h.few,fun k v s=>?_,fun b k p d j U=>?_⟩
 ·obtain⟨r,f⟩:=h.ents k v s;have x: ∀b,v.ownBlock=some b->qbw (tag b)=some c:=fun b d=>by rw [f b d];rfl
  exact⟨qf r hK (fun b d=>e b (x b d)),fun b d=>(g b (x b d)).trans (f b d)⟩
 ·have q:=t b (by rw [d];rfl);rw [d]at q;obtain⟨i,r,f⟩:=h.blocks b k p q.symm j U;exact⟨i,r,hK.cell f (e b (by rw [←q];rfl))⟩
structure TagStep (c:List Bool)(tag tag':qbu)(w w':World):Prop where
 le:TagLe tag tag'
 old: ∀b,b<w.heap.size->qbw (tag b)≠some c->tag' b=tag b
 new: ∀b T,tag' b=some T->b<w'.heap.size/\(w.heap.size<=b->qbw (some T)=some c)
 ents: ∀b c',qbw (tag' b)=some c'->qbw (tag b)=some c'∨c'=c
theorem qs8: ∀w:World,(zeroValue 125).run prog w=.ok (.slice none 0 0) w:=fun w=>wA
theorem qz5 {tag:qbu}{W W2:World}{n:Nat}{ts:List (List Int)}{c:List Bool}{L M:Nat}{l:List Int}{vl:Value}{m:List (List Int×Value)}(h:LookAt tag W n ts c L l vl M m)(af: ∀b T,tag b=some T->b<W.heap.size)(t:List Int)(aO:ts.length<=536870912)
  (aa:Keep (fun b=>b≠M) W W2) (aM:W2.heap.size=W.heap.size+1) (ax:W2.heap[W.heap.size]?=some (.cells #[qhy ts.length] 3 (0,0))) (v0:Value) (aC:(∃v,(qb4 t l,v)∈m/\v0=v)∨(qb4 t l∉m.map (·.1)/\v0=.slice none 0 0)) (st:Int)
  (aB: ∀w2:World,w2.heap[M]?=W2.heap[M]?-> ∀v:Value,∃w3,(Instr.entryStore 266 (.map (some M)) (.int .i64 st) v).run prog w2=.ok () w3/\qz4 w3 M (setK m (qb4 t l) v)/\Keep (fun j=>j≠M) w2 w3/\w3.heap.size=w2.heap.size):
  ∃v' W3 W4,(Builtin.append_ #[125,125] 125 #[v0,.slice (some ⟨W.heap.size,0,none⟩) 1 1]).run prog W2=.ok v' W3/\(Instr.entryStore 266 (.map (some M)) (.int .i64 st) v').run prog W3=.ok () W4/\Keep (fun b=>b≠M/\ ∀k p,tag b≠some (.ent c k p)) W W3/\
   ∃tag',LookAt tag' W4 n (ts++ [t]) c L l vl M (setK m (qb4 t l) v')/\TagStep c tag tag' W W4/\Keep (fun b=>qbw (tag b)≠some c) W W4:=by
 have aH:=af M _ h.tagM;have ah:W.ownsRow 0 3 1 v0 (idx ts l (qb4 t l)).length ((idx ts l (qb4 t l)).map qhy)/\ ∀b,v0.ownBlock=some b->tag b=some (.ent c (qb4 t l) (idx ts l (qb4 t l)).length):=by
  rcases aC with ⟨v,hv,rfl⟩ |⟨y,rfl⟩
  ·exact h.ents _ _ hv
  ·have:idx ts l (qb4 t l)= []:=by
    refine filter_eq_nil_iff.2 fun i hi=>?_;rw [yh]at hi;simp only [zT];intro he;refine y ((h.keys _).2 ⟨ts.getD i [],?_,he⟩);rw [zJ,zB hi];exact xD hi
   rw [this];exact⟨zj _ _ _ _,fun b d=>by simp [Value.ownBlock] at d⟩
 obtain⟨an,ap⟩:=ah;have ar: ∀b,v0.ownBlock=some b->b≠M:=fun b d e=>by have:=ap b d;rw [e,h.tagM] at this;cases this
 have ay:=qf an aa ar;have aK:=qvx ts l (qb4 t l);obtain⟨v',W3,az,ag,g,cap,aj,Y,aJ,z⟩:=qly ql8 125 ay ⟨W.heap.size,0,none⟩ 1 1 [qhy ts.length] rfl (fun j u hj=>by
  have:=qb ax j u (by simpa using hj);simp only [zD]at this;rw [show((⟨W.heap.size,0,none⟩:Addr).add j)=⟨W.heap.size,j,none⟩ from by unfold Addr.add;split<;>simp_all];exact this) (by simp [Value.oneCell']) xz xz xz
 have r:tag g=some (.ent c (qb4 t l) (idx ts l (qb4 t l)).length)∨(tag g=none/\W.heap.size<g):=by
  rcases Y with Y |Y
  ·exact .inl (ap g Y)
  ·refine .inr ⟨?_,xz⟩;cases hT:tag g with
   |none=>rfl
   |some T=>have:=af g T hT;omega
 have s: ∀b,qbw (tag b)=some c->(∀p,tag b≠some (.ent c (qb4 t l) p))->b≠g:=fun b d y e=>by
  subst e;rcases r with q |⟨q,_⟩
  ·exact y _ q
  ·rw [q]at d;cases d
 have R:M≠g:=s M (by rw [h.tagM];rfl) (fun p=>by rw [h.tagM];exact fun e=>(by cases e));obtain⟨W4,aA,aw,ab,aN⟩:=aB W3 (z.block M xz R) v';have aP:=z.size;have x:Keep (fun b=>b≠M/\b≠g) W W4:=(aa.mono fun b _ h=>h.1).trans ((z.mono fun b _ h=>h.2).trans (ab.mono fun b _ h=>h.1));have aq:Keep (fun b=>b≠M/\ ∀k p,tag b≠some (.ent c k p)) W W3:=(aa.mono fun b _ h=>h.1).trans (z.mono fun b d h e=>by
  subst e;rcases r with q |⟨_,q⟩
  ·exact h.2 _ _ q
  ·rcases Y with Y |Y
   ·have:=(zE an _ Y).2;omega
   ·omega)
 refine⟨v',W3,W4,az,aA,aq,fun b=>if b=g then some (.ent c (qb4 t l) ((idx ts l (qb4 t l)).length+1)) else tag b,?_,⟨?_,?_,?_,?_⟩,?_⟩
 ·have av: ∀b,qbw (tag b)=some c->b≠M->b≠g->b≠M/\b≠g:=fun b _ q X=>⟨q,X⟩;have hL:L≠M/\L≠g:=⟨fun e=>(by have:=h.tagL;rw [e,h.tagM] at this;cases this),s L (by rw [h.tagL];rfl) (fun p=>by rw [h.tagL];exact fun e=>(by cases e))⟩;have am: ∀b,vl.ownBlock=some b->b≠M/\b≠g:=fun b d=>⟨fun e=>(by have:=h.tagl b d;rw [e,h.tagM] at this;cases this),s b (by rw [h.tagl b d];rfl) (fun p=>by rw [h.tagl b d];exact fun e=>(by cases e))⟩;refine⟨h.row,h.mask,by rw [zF hL.2];exact h.tagL,x.heap h.box hL,by rw [zF R];exact h.tagM,aw,qf h.list x am,fun b d=>by rw [zF (am b d).2];exact h.tagl b d,fun k=>?_,?few,fun k v U=>?_,fun b k p d j hj=>?_⟩
  case few=>
   have:=h.few;unfold setK;split<;>simp<;>omega
  ·have ao:k∈(setK m (qb4 t l) v').map (·.1)↔k∈m.map (·.1)∨k=qb4 t l:=by
    by_cases ae:qb4 t l∈m.map (·.1)
    ·rw [ql5 ae];exact⟨.inl,fun h=>h.elim id (fun e=>e▸ae)⟩
    ·unfold setK;rw [zF ae];simp
   rw [ao,h.keys];constructor
   ·rintro(⟨t1,ht1,e⟩ |e)
    ·exact⟨t1,by simp [ht1],e⟩
    ·exact⟨t,wB,e.symm⟩
   ·rintro⟨t1,ht1,e⟩;rcases zn.1 ht1 with ht1 |ht1
    ·exact .inl ⟨t1,ht1,e⟩
    ·have:t1=t:=by simpa using ht1
     subst this;exact .inr e.symm
  ·have ad:(k=qb4 t l/\v=v')∨(k≠qb4 t l/\(k,v)∈m):=by
    unfold setK at U;split at U
    ·obtain⟨p,hp,he⟩:=yK.1 U;split at he
     ·rename_i e1;cases he;exact .inl ⟨rfl,rfl⟩
     ·rename_i e1;subst he;exact .inr ⟨e1,hp⟩
    ·rename_i y;rcases zn.1 U with hp |hp
     ·exact .inr ⟨fun e=>y (e▸yK.2 ⟨_,hp,rfl⟩),hp⟩
     ·simp at hp;exact .inl hp
   rcases ad with ⟨rfl,rfl⟩ |⟨hne,hmem⟩
   ·rw [qkj,zI rfl];refine⟨?_,fun b d=>?_⟩
    ·have:=qf ag ab (fun b d=>by rw [aj] at d;simp only [Value.ownBlock,yb] at d;rw [←d];exact fun e=>R e.symm)
     simpa using this
    ·rw [aj]at d;simp only [Value.ownBlock,yb]at d;rw [zI d.symm];simp
   ·rw [qkj,zF (fun e=>hne e.symm),yO];obtain⟨q,X⟩:=h.ents k v hmem;have h3: ∀b,v.ownBlock=some b->b≠M/\b≠g:=fun b d=>⟨fun e=>(by have:=X b d;rw [e,h.tagM] at this;cases this),s b (by rw [X b d];rfl) (fun p=>by rw [X b d];exact fun e=>by cases e;exact hne rfl)⟩;exact⟨qf q x h3,fun b d=>by rw [zF (h3 b d).2];exact X b d⟩
  ·by_cases f:b=g
   ·subst f;rw [zI rfl]at d;simp only [yb,Tag.ent.injEq,true_and]at d;obtain⟨hk,rfl⟩:=d;subst hk;rw [qkj,zI rfl];obtain⟨i,hi⟩: ∃i,(idx ts l (qb4 t l)++ [ts.length])[j]?=some i:=⟨_,zB (by simp;omega)⟩;refine⟨i,hi,?_⟩;rw [aj]at ag;have:=qau ag j (qhy i) (by rw [show(idx ts l (qb4 t l)).map qhy++ [qhy ts.length]=(idx ts l (qb4 t l)++ [ts.length]).map qhy from wB,zP,hi];rfl);exact ab.cell this (fun e=>R e.symm)
   ·rw [zF f]at d;obtain⟨i,q,X⟩:=h.blocks b k p d j hj;refine⟨i,?_,x.cell X ⟨fun e=>?_,f⟩⟩
    ·rw [qkj,yQ (zA.1 q).1];exact q
    ·simp only at e;rw [e,h.tagM]at d;cases d
 ·intro b T d;by_cases f:b=g
  ·subst f;rcases r with q |⟨q,_⟩
   ·rw [q]at d;cases d;exact .inr ⟨c,_,_,_,rfl,zI rfl,xz⟩
   ·rw [q]at d;cases d
  ·exact .inl (by show(if b=g then _ else _)=_;rw [zF f];exact d)
 ·intro b aI d;have f:b≠g:=fun e=>by
   subst e;rcases r with q |⟨_,q⟩
   ·rw [q]at d;exact d rfl
   ·omega
  show(if b=g then _ else _)=_;rw [zF f]
 ·intro b T d;by_cases f:b=g
  ·subst f;simp only [yg]at d;cases d;exact⟨xz,fun _=>rfl⟩
  ·simp only [zF f]at d;have:=af b T d;exact⟨xz,fun h=>xz⟩
 ·intro b c' d;by_cases f:b=g
  ·subst f;simp only [yg]at d;cases d;exact .inr rfl
  ·simp only [zF f]at d;exact .inl d
 ·refine x.mono fun b d hC=>⟨fun e=>?_,fun e=>?_⟩
  ·subst e;exact hC (by rw [h.tagM];rfl)
  ·subst e;rcases r with q |⟨_,q⟩
   ·exact hC (by rw [q];rfl)
   ·omega
end Go.Proofs.R4
namespace Go.Proofs.R4
open Go.RowKit Go.Ink
attribute [local go_sem] Oper.semAt_some
theorem qxj {F:World->Prop}{w:World}(G:World->Prop)(h:G w)(k: ∀W,G W->F W):F w:=k w h
theorem qs9 {tag:qbu}{w:World}{n:Nat}{ts:List (List Int)}{c:List Bool}{L M:Nat}{l:List Int}{vl:Value}{m:List (List Int×Value)}(h:LookAt tag w n ts c L l vl M m)(bk: ∀b T,tag b=some T->b<w.heap.size)(hn:n<=16)(bq:ts.length<=536870912)
  (v:Value) (t:List Int) (hs:qan w.heap.size w v t) (ht:t.length=n) (bn:okT t) (bj:l.length<=16):
  Calls prog 137 #[.pointer (some ⟨L,0,none⟩),v,qhy ts.length] w fun e w'=>e=.returned (.tuple #[])/\
   ∃tag' m',LookAt tag' w' n (ts++ [t]) c L l vl M m'/\TagStep c tag tag' w w'/\Keep (fun b=>qbw (tag b)≠some c) w w':=by
 obtain⟨a,cc,rfl,b9,cE,bc⟩:=id hs;have b7:=qe h.box;have b8:=h.map.lt;have d0:=qb h.box 0 _ rfl;simp only [zD]at d0;have bf: ∀x∈l,0<=x/\x<t.length:=fun x hx=>by rw [ht];exact qmu h.row x hx
 have bi:qan w.heap.size w vl l:=qd5 h.list xz;have ap:(qay (qd6 t l)).length=16:=qg6 (by rw [qjg];exact bj);have aG: ∃q,keyOf prog 214 (qgu (qb4 t l))=some q:=qo6 ap (qm0 (q4h bn));obtain⟨k0,k1,k2,k3,k4,k5,k6,k7,k8,k9,f,g,i,j,r,s,ar⟩: ∃k0 k1 k2 k3 k4 k5 k6 k7 k8 k9 f g i j r s,qb4 t l= [k0,k1,k2,k3,k4,k5,k6,k7,k8,k9,f,g,i,j,r,s]:=by
  unfold qb4
  match h:qay (qd6 t l),ap with
  | [k0,k1,k2,k3,k4,k5,k6,k7,k8,k9,f,g,i,j,r,s],_=>exact⟨k0,k1,k2,k3,k4,k5,k6,k7,k8,k9,f,g,i,j,r,s,rfl⟩
 have bh:qgu (qb4 t l)=.agg #[.int .i64 k0,.int .i64 k1,.int .i64 k2,.int .i64 k3,.int .i64 k4,.int .i64 k5,.int .i64 k6,.int .i64 k7,.int .i64 k8,.int .i64 k9,.int .i64 f,.int .i64 g,.int .i64 i,.int .i64 j,.int .i64 r,.int .i64 s]:=by rw [ar];rfl
 clear ap ht bn;refine qc9 ?_ h bk hs bc bf bi aG ar bh bq;clear h bk hs bc bf bi aG ar bh bq;intro Xh X bR b4 a3 a4 aP bQ az aA
 go_enter Tryz.func137,Tryz.ntmps137
 go_wp2_with fail;refine(q4g w _ vl t l bR.o a4.o bj a3.o).mono ?_;rintro e W1 ⟨rfl,aV⟩;obtain⟨W0,aS⟩:=ex (W1.alloc (.cells #[.int .i64 0,.int .i64 0,.int .i64 0,.int .i64 0,.int .i64 0,.int .i64 0,.int .i64 0,.int .i64 0,.int .i64 0,.int .i64 0,.int .i64 0,.int .i64 0,.int .i64 0,.int .i64 0,.int .i64 0,.int .i64 0] 214));obtain⟨d,aT⟩:=ex (W1.heap.size);have n1:W0.heap[d]?=some (.cells #[.int .i64 0,.int .i64 0,.int .i64 0,.int .i64 0,.int .i64 0,.int .i64 0,.int .i64 0,.int .i64 0,.int .i64 0,.int .i64 0,.int .i64 0,.int .i64 0,.int .i64 0,.int .i64 0,.int .i64 0,.int .i64 0] 214 (0,0)):=by rw [←aS,←aT];exact qh _ _
 have bt:Keep (fun b=>b<w.heap.size) w W0:=by rw [←aS];exact aV.trans kAl
 have s0:d<W0.heap.size:=qe n1;have cG:w.heap.size<=d:=by rw [←aT];exact aV.size
 have z0:=qb n1 0 _ rfl;have f0:=qg n1 0;have z1:=qb n1 1 _ rfl;have f1:=qg n1 1;have z2:=qb n1 2 _ rfl;have f2:=qg n1 2;have z3:=qb n1 3 _ rfl;have f3:=qg n1 3;have z4:=qb n1 4 _ rfl;have f4:=qg n1 4;have z5:=qb n1 5 _ rfl;have f5:=qg n1 5;have z6:=qb n1 6 _ rfl;have f6:=qg n1 6;have z7:=qb n1 7 _ rfl;have f7:=qg n1 7;have z8:=qb n1 8 _ rfl;have f8:=qg n1 8;have z9:=qb n1 9 _ rfl;have f9:=qg n1 9;have bG:=qb n1 10 _ rfl;have cv:=qg n1 10;have bH:=qb n1 11 _ rfl;have cw:=qg n1 11;have bI:=qb n1 12 _ rfl;have cx:=qg n1 12;have bJ:=qb n1 13 _ rfl;have cy:=qg n1 13;have bK:=qb n1 14 _ rfl;have cz:=qg n1 14;have bL:=qb n1 15 _ rfl;have cA:=qg n1 15;simp only [zD]at z0 z1 z2 z3 z4 z5 z6 z7 z8 z9 bG bH bI bJ bK bL;rw [az.o];clear aV;refine hd2 ?_ n1 bt;clear n1 bt;intro a5 aB;go_wp2_with fail;refine qxj (fun W=>W.heap[d]?=some (.cells #[.int .i64 k0,.int .i64 k1,.int .i64 k2,.int .i64 k3,.int .i64 k4,.int .i64 k5,.int .i64 k6,.int .i64 k7,.int .i64 k8,.int .i64 k9,.int .i64 f,.int .i64 g,.int .i64 i,.int .i64 j,.int .i64 r,.int .i64 s] 214 (0,0))/\Keep (fun k=>k<w.heap.size) w W) (w:=qgk d [.int .i64 k0,.int .i64 k1,.int .i64 k2,.int .i64 k3,.int .i64 k4,.int .i64 k5,.int .i64 k6,.int .i64 k7,.int .i64 k8,.int .i64 k9,.int .i64 f,.int .i64 g,.int .i64 i,.int .i64 j,.int .i64 r,.int .i64 s] 0 W0) ⟨qgl [.int .i64 k0,.int .i64 k1,.int .i64 k2,.int .i64 k3,.int .i64 k4,.int .i64 k5,.int .i64 k6,.int .i64 k7,.int .i64 k8,.int .i64 k9,.int .i64 f,.int .i64 g,.int .i64 i,.int .i64 j,.int .i64 r,.int .i64 s] a5.o rfl,aB.o.trans ((qeh _ _ _ _).mono (fun b _ h=>xz))⟩ ?_;rintro W2 ⟨z,bu⟩;clear z0 z1 z2 z3 z4 z5 z6 z7 z8 z9 bG bH bI bJ bK bL a5 aB s0 aT aS;have r0:=qb z 0 _ rfl;have r1:=qb z 1 _ rfl;have r2:=qb z 2 _ rfl;have r3:=qb z 3 _ rfl;have r4:=qb z 4 _ rfl;have r5:=qb z 5 _ rfl;have r6:=qb z 6 _ rfl;have r7:=qb z 7 _ rfl;have r8:=qb z 8 _ rfl;have r9:=qb z 9 _ rfl
 have bv:=qb z 10 _ rfl;have bw:=qb z 11 _ rfl;have bx:=qb z 12 _ rfl;have bz:=qb z 13 _ rfl;have bD:=qb z 14 _ rfl;have bF:=qb z 15 _ rfl;simp only [zD]at r0 r1 r2 r3 r4 r5 r6 r7 r8 r9 bv bw bx bz bD bF;have bS:qbw (tag L)=some c:=by rw [Xh.o.tagL];rfl
 obtain⟨R,ax⟩:=ex (W2.drew);have kd:Keep (fun k=>k<w.heap.size) w R:=by rw [←ax];exact bu.trans kDr
 have hd:LookAt tag R n ts c L l vl M m:=Xh.o.keep kd (fun b hb=>by
  cases hT:tag b with
  |none=>rw [hT] at hb;cases hb
  |some T=>exact X.o b T hT) (fun _ _=>rfl) (fun _ _=>rfl)
 have bb: ∀b T,tag b=some T->b<R.heap.size:=fun b T hb=>zk (X.o b T hb) kd.size;have bl:m.length<=maxLen:=by have:=hd.few;have:=aA.o;simp only [maxLen];omega
 have cD:=hd.map.lt;have ca:d<R.heap.size:=by rw [←ax];exact qe z
 have step: ∀tag' W4,TagStep c tag tag' R W4->TagStep c tag tag' w W4:=fun tag' W4 ab=>⟨ab.le,fun b hb=>ab.old b (zk hb kd.size),fun b T hb=>⟨(ab.new b T hb).1,fun cF=>by
  rcases yX b R.heap.size with hb1 |hb1
  ·have aq:tag b=none:=by
    cases hT:tag b with
    |none=>rfl
    |some T'=>have:=X.o b T' hT;omega
   have:=ab.old b hb1 (by rw [aq];exact fun e=>(by cases e));rw [hb,aq]at this;cases this
  ·exact(ab.new b T hb).2 hb1⟩,ab.ents⟩
 have au: ∀W4,Keep (fun b=>qbw (tag b)≠some c) R W4->Keep (fun b=>qbw (tag b)≠some c) w W4:=fun W4 hk=>⟨hk.os.trans kd.os,hk.tape.trans kd.tape,hk.output.trans kd.output,zW kd.size hk.size,fun b hb hC=>(hk.block b (zk hb kd.size) hC).trans (kd.block b hb hb)⟩;obtain⟨an,y⟩:=ex (R.alloc (.cells #[qhy ts.length] 3));have aU:wD R an:=by rw [←y];exact kAl
 have bM:an.heap.size=R.heap.size+1:=by rw [←y];simp
 have a6:an.heap[R.heap.size]?=some (.cells #[qhy ts.length] 3 (0,0)):=by rw [←y];exact qh _ _
 obtain⟨vA,stA,bO,bV,br,ay,bp,aJ⟩:=qwp (P:=prog) Tryz.underlying266 qki.law qi3 qs8 (hd.map.keep aU wE) bl (qb4 t l) aP.o;obtain⟨b1,aX,aL,aH,aI,aF,cn,a7,a8,a9⟩:=qz5 hd bb t aA.o (aU.mt.trans ay) (bp.trans bM) ((ay.block _ xz xz).trans a6) vA br stA aJ;rw [az.o]at bV;have fA: ∃tag' m',LookAt tag' aL n (ts++ [t]) c L l vl M m'/\TagStep c tag tag' w aL/\Keep (fun b=>qbw (tag b)≠some c) w aL:=⟨_,_,a7,step _ _ a8,au _ a9⟩;have e1:R.cell? ⟨L,1,none⟩=some (.map (some M)):=by have:=qb hd.box 1 _ rfl;simpa using this
 have cC:=qe hd.box;have bo:R.heap[d]?=some (.cells #[.int .i64 k0,.int .i64 k1,.int .i64 k2,.int .i64 k3,.int .i64 k4,.int .i64 k5,.int .i64 k6,.int .i64 k7,.int .i64 k8,.int .i64 k9,.int .i64 f,.int .i64 g,.int .i64 i,.int .i64 j,.int .i64 r,.int .i64 s] 214 (0,0)):=by rw [←ax];exact z
 have bm:tag d=none:=by
  cases hT:tag d with
  |none=>rfl
  |some T=>have:=X.o d T hT;omega
 have Y: ∀W:World,Keep (fun b=>b≠M/\ ∀k p,tag b≠some (.ent c k p)) R W->W.cell? ⟨L,1,none⟩=some (.map (some M))/\W.heap[d]?=some (.cells #[.int .i64 k0,.int .i64 k1,.int .i64 k2,.int .i64 k3,.int .i64 k4,.int .i64 k5,.int .i64 k6,.int .i64 k7,.int .i64 k8,.int .i64 k9,.int .i64 f,.int .i64 g,.int .i64 i,.int .i64 j,.int .i64 r,.int .i64 s] 214 (0,0)):=fun W hW=>⟨hW.cell e1 ⟨fun e=>(by have:=hd.tagL;simp only at e;rw [e,hd.tagM] at this;cases this),fun k p e=>(by have:=hd.tagL;simp only at e;rw [e] at this;cases this)⟩,hW.heap bo ⟨fun e=>xz,fun k p e=>by rw [bm] at e;cases e⟩⟩;have U: ∀W:World,Keep (fun b=>b≠M/\ ∀k p,tag b≠some (.ent c k p)) R W->W.cell? ⟨L,1,none⟩=some (.map (some M))/\W.cell? ⟨d,0,none⟩=some (.int .i64 k0)/\W.cell? ⟨d,1,none⟩=some (.int .i64 k1)/\W.cell? ⟨d,2,none⟩=some (.int .i64 k2)/\W.cell? ⟨d,3,none⟩=some (.int .i64 k3)/\W.cell? ⟨d,4,none⟩=some (.int .i64 k4)/\W.cell? ⟨d,5,none⟩=some (.int .i64 k5)/\W.cell? ⟨d,6,none⟩=some (.int .i64 k6)/\W.cell? ⟨d,7,none⟩=some (.int .i64 k7)/\W.cell? ⟨d,8,none⟩=some (.int .i64 k8)/\W.cell? ⟨d,9,none⟩=some (.int .i64 k9)/\W.cell? ⟨d,10,none⟩=some (.int .i64 f)/\W.cell? ⟨d,11,none⟩=some (.int .i64 g)/\W.cell? ⟨d,12,none⟩=some (.int .i64 i)/\W.cell? ⟨d,13,none⟩=some (.int .i64 j)/\W.cell? ⟨d,14,none⟩=some (.int .i64 r)/\W.cell? ⟨d,15,none⟩=some (.int .i64 s):=fun W hW=>by
  obtain⟨q1,q2⟩:=Y W hW;refine⟨q1,?_,?_,?_,?_,?_,?_,?_,?_,?_,?_,?_,?_,?_,?_,?_,?_⟩<;>simp [World.cell?,q2]
 clear aU bM a6 a7 a8 a9 br bp aJ step au hd bb bl bu kd bS r0 r1 r2 r3 r4 r5 r6 r7 r8 r9 bv bw bx bz bD bF e1 bo Y;have ba:=U an (by rw [←y];exact kAl);have aC:=U bO (((by rw [←y];exact kAl:Keep (fun b=>b≠M) R an).trans ay).mono fun b _ h=>h.1);have aE:=U aX aF;have aD:=U R (Keep.refl _ _);clear ay aF U bm;refine hd9 ?_ fA z ba aC aD aE y aH aI;clear fA z ba aC aD aE y aH aI;intro bP ct a2 ao aM aN aO aQ aR;subst ax;refine qba rfl (fun W=>W.cell? ⟨L,1,none⟩=some (.map (some M))/\W.cell? ⟨d,0,none⟩=some (.int .i64 k0)/\W.cell? ⟨d,1,none⟩=some (.int .i64 k1)/\W.cell? ⟨d,2,none⟩=some (.int .i64 k2)/\W.cell? ⟨d,3,none⟩=some (.int .i64 k3)/\W.cell? ⟨d,4,none⟩=some (.int .i64 k4)/\W.cell? ⟨d,5,none⟩=some (.int .i64 k5)/\W.cell? ⟨d,6,none⟩=some (.int .i64 k6)/\W.cell? ⟨d,7,none⟩=some (.int .i64 k7)/\W.cell? ⟨d,8,none⟩=some (.int .i64 k8)/\W.cell? ⟨d,9,none⟩=some (.int .i64 k9)/\W.cell? ⟨d,10,none⟩=some (.int .i64 f)/\W.cell? ⟨d,11,none⟩=some (.int .i64 g)/\W.cell? ⟨d,12,none⟩=some (.int .i64 i)/\W.cell? ⟨d,13,none⟩=some (.int .i64 j)/\W.cell? ⟨d,14,none⟩=some (.int .i64 r)/\W.cell? ⟨d,15,none⟩=some (.int .i64 s)) [11] ?_;refine qab [0,1,2,3,4,5] ?_
 iterate 6
  refine tkA rfl aM.o ?_
  try simp only [qac]
 refine qk ?_;refine ho 6 rfl fun K aY=>?_;have bU:=aO.o;go_wp2_with fail;refine aY.o _ _ (fun _=>a2.o) ?_;refine ho 7 rfl fun K aZ=>?_;go_wp2_with fail;refine aZ.o _ _ (fun _=>ao.o) ?_;refine qab [8,10] ?_
 iterate 2
  refine tkA rfl ao.o ?_
  try simp only [qac]
 refine qk ?_;refine ho 9 rfl fun K a0=>?_;simp only [getElem_toArray,getElem_cons_zero,getElem_cons_succ,Act.put,yJ,set_cons_zero,set_cons_succ];refine qcd (v:=vA) (u:=.slice (some ⟨W2.heap.size,0,none⟩) 1 1) (v':=b1) (w':=aX) rfl (.tmp 18) (.tmp 20) 125 rfl rfl rfl aQ.o ?_;go_wp2_with fail;refine a0.o _ _ (fun _=>aN.o) ?_;refine ho 11 rfl fun K a1=>?_;have bW:=aR.o;go_wp2_with fail;refine a1.o _ _ (fun h=>by simp at h) ?_;refine qbq wA ?_;go_wp2_with fail;refine xx (yr rfl _ _ _) rfl ?_;exact⟨rfl,bP.o⟩
end Go.Proofs.R4
