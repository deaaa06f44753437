/- Parts of the proof. -/
import Derived.Test.YtnponcjnahicnaaGreatMapsToRelH
set_option linter.unusedSimpArgs false
set_option linter.unusedVariables false
set_option maxRecDepth 100000
set_option maxHeartbeats 4000000
open Go.Proofs.Tryz(prog)
open List(append_inj drop_replicate eq_of_mem_replicate filter_congr filter_eq_nil_iff getElem?_set_self length_singleton mapM_cons map_replicate map_set nil_append replicate_succ set_append_right set_cons_zero singleton_append take_set_of_le take_zero)
namespace Go.Proofs.R4
open Go.RowKit Go.Ink
attribute [local go_sem] Oper.semAt_some
def qbc (t:List Int):List Int:=t++List.replicate (16-t.length) 0
def qhl (l:List Int):Value:=.agg (l.map (.int .i64)).toArray
theorem qh4 {t:List Int}(h:t.length<=16):(qbc t).length=16:=by simp [qbc];omega
theorem qrv {s t:List Int}(h:qbc s=qbc t)(b:s.length=t.length):s=t:=by
 unfold qbc at h;exact(append_inj h b).1
theorem qkd: ∀a b:List Int,qhl a=qhl b->a=b:=by
 intro a b h;unfold qhl at h;injection h with h
 have c:a.map (Value.int .i64)=b.map (.int .i64):=by simpa using yO Array.toList h
 clear h
 induction a generalizing b with
 |nil=>cases b with
  |nil=>rfl
  |cons y b=>simp at c
 |cons x a ih=>cases b with
  |nil=>simp at c
  |cons y b=>
   simp only [yZ,List.cons.injEq,Value.int.injEq,true_and]at c;rw [c.1,ih b c.2]
def qhg (b:Nat):List Value->Nat->World->World
 | [],_,w=>w
 |v::vs,i,w=>qhg b vs (i+1) (w.setCell ⟨b,i,none⟩ v)
theorem qq0 {b t:Nat}{d:Nat×Nat}: ∀(vs:List Value) (i:Nat) (w:World) (cs:Array Value),w.heap[b]?=some (.cells cs t d)->i+vs.length=cs.size->(qhg b vs i w).heap[b]?=some (.cells (cs.toList.take i++vs).toArray t d)
 | [],i,w,cs,h,hl=>by
  have:i=cs.size:=by simpa using hl
  subst this;rw [qhg,h,yQ];rw [yz wE]
 |v::vs,i,w,cs,h,hl=>by
  have c:i+1+vs.length=cs.size:=by simp at hl;omega
  have:=qq0 vs (i+1) (w.setCell ⟨b,i,none⟩ v) _ (qag i v h) (by simpa using c);rw [qhg,this];have hi:i<cs.toList.length:=by simp;omega
  simp only [Array.toList_setIfInBounds,zh,take_set_of_le (zG i),getElem?_set_self hi,Option.toList_some,yu,singleton_append]
theorem qhh {b t:Nat}{d:Nat×Nat}{w:World}{c:Array Value}(vs:List Value)(h:w.heap[b]?=some (.cells c t d))(e:vs.length=c.size):(qhg b vs 0 w).heap[b]?=some (.cells vs.toArray t d):=by
 have:=qq0 vs 0 w c h wC
 simpa using this
theorem qfh (b:Nat): ∀(vs:List Value) (i:Nat) (w:World),Keep (fun j=>j≠b) w (qhg b vs i w)
 | [],_,_=>Keep.refl _ _
 |v::vs,i,w=>(kSc).trans (qfh b vs (i+1) _)
theorem qny (n:Nat)(v:Value)(t:List Int)(w:World)(hs:qat n w v t)(hn:n<=w.heap.size)(hl:t.length<=16):
  Calls prog 98 #[v] w fun e w'=>e=.returned (qhl (qbc t))/\Keep (fun k=>k<w.heap.size) w w':=by
 obtain⟨a,c,rfl,bK,br,ar⟩:=id hs;obtain⟨W0,aj⟩:=ex ((w.alloc (.cells #[.int .i64 0,.int .i64 0,.int .i64 0,.int .i64 0,.int .i64 0,.int .i64 0,.int .i64 0,.int .i64 0,.int .i64 0,.int .i64 0,.int .i64 0,.int .i64 0,.int .i64 0,.int .i64 0,.int .i64 0,.int .i64 0] 176)).alloc (.cells #[.int .i64 0,.int .i64 0,.int .i64 0,.int .i64 0,.int .i64 0,.int .i64 0,.int .i64 0,.int .i64 0,.int .i64 0,.int .i64 0,.int .i64 0,.int .i64 0,.int .i64 0,.int .i64 0,.int .i64 0,.int .i64 0] 176));have am:wG w W0:=by rw [←aj];exact kAl.trans kAl
 have s0:W0.heap.size=w.heap.size+1+1:=by rw [←aj];simp
 have n1:W0.heap[w.heap.size]?=some (.cells #[.int .i64 0,.int .i64 0,.int .i64 0,.int .i64 0,.int .i64 0,.int .i64 0,.int .i64 0,.int .i64 0,.int .i64 0,.int .i64 0,.int .i64 0,.int .i64 0,.int .i64 0,.int .i64 0,.int .i64 0,.int .i64 0] 176 (0,0)):=by rw [←aj];exact qf3 (qh _ _) _
 have n2:W0.heap[w.heap.size+1]?=some (.cells #[.int .i64 0,.int .i64 0,.int .i64 0,.int .i64 0,.int .i64 0,.int .i64 0,.int .i64 0,.int .i64 0,.int .i64 0,.int .i64 0,.int .i64 0,.int .i64 0,.int .i64 0,.int .i64 0,.int .i64 0,.int .i64 0] 176 (0,0)):=by rw [←aj];simp only [qao,zO];simp
 have ay:=qeg hs (m:=n) (am.mt) (zG _);have aq:=qgo (sz:=1) ic (fun _=>rfl) wC (E:=qgc) (fun b o x h j u hj=>by
  have aU:j=0:=by have:=(zA.1 hj).1;simp [ic] at this;exact this
  subst aU;simp [ic]at hj;subst hj;exact h) ay rfl
 have U:(prog.info? 3).map (·.size)=some 1:=wD
 have ap: ∃r W1,(Builtin.copy_ #[86,86] 3 #[.slice (some ⟨w.heap.size+1,0,none⟩) 16 16,.slice a t.length c]).run prog W0=.ok r W1/\W1.heap[w.heap.size+1]?=some (.cells ((qbc t).map (.int .i64)).toArray 176 (0,0))/\Keep (fun b=>b≠w.heap.size+1) W0 W1/\W1.heap.size=W0.heap.size:=by
  cases a with
  |none=>
   have ht:t= []:=yq (aq.2 rfl);subst ht;exact⟨_,_,run_copy_none W0 _ _ _ _ _ _ _ _ _ _ Tryz.underlying86 U wE,n2,Keep.refl _ _,rfl⟩
  |some ad=>
   have aD:=aq.1 ad rfl;rw [qnl]at aD;have hr:=run_copy_row (P:=prog) W0 86 86 3 3 (w.heap.size+1) 0 16 16 ad t.length c _ _ (t.map (.int .i64)) Tryz.underlying86 U n2 (by rw [zL];exact(xS hl).symm) aD (by simp;omega) (by simp [Value.oneCell']);refine⟨_,_,hr,?_,?_,?_⟩
   ·rw [setRow_heap W0 _ _ _ _ _ n2];have hz:([.int .i64 0,.int .i64 0,.int .i64 0,.int .i64 0,.int .i64 0,.int .i64 0,.int .i64 0,.int .i64 0,.int .i64 0,.int .i64 0,.int .i64 0,.int .i64 0,.int .i64 0,.int .i64 0,.int .i64 0,.int .i64 0]:List Value)=List.replicate 16 (.int .i64 0):=rfl;simp only [hz,take_zero,nil_append,zD,zL,drop_replicate,qbc,zn,map_replicate]
   ·exact⟨rfl,rfl,rfl,wE,fun k _ hk=>setRow_other _ _ _ _ hk⟩
   ·simp
 obtain⟨rv,W1,bk,ao,an,aG⟩:=ap;obtain⟨k0,k1,k2,Y,k4,k5,k6,k7,k8,k9,p,s,l,q,z,y,X⟩: ∃k0 k1 k2 Y k4 k5 k6 k7 k8 k9 p s l q z y,qbc t= [k0,k1,k2,Y,k4,k5,k6,k7,k8,k9,p,s,l,q,z,y]:=by
  have aB:=qh4 hl
  match h:qbc t,aB with
  | [k0,k1,k2,Y,k4,k5,k6,k7,k8,k9,p,s,l,q,z,y],_=>exact⟨k0,k1,k2,Y,k4,k5,k6,k7,k8,k9,p,s,l,q,z,y,rfl⟩
 rw [X]at ao;rw [X];have g:W1.heap[w.heap.size+1]?=some (.cells #[.int .i64 k0,.int .i64 k1,.int .i64 k2,.int .i64 Y,.int .i64 k4,.int .i64 k5,.int .i64 k6,.int .i64 k7,.int .i64 k8,.int .i64 k9,.int .i64 p,.int .i64 s,.int .i64 l,.int .i64 q,.int .i64 z,.int .i64 y] 176 (0,0)):=ao;have d:=an.heap n1 wC;have c0:=qb g 0 _ rfl;have z0:=qb d 0 _ rfl;have f0:=qg d 0;have c1:=qb g 1 _ rfl;have z1:=qb d 1 _ rfl;have f1:=qg d 1;have c2:=qb g 2 _ rfl;have z2:=qb d 2 _ rfl;have f2:=qg d 2;have c3:=qb g 3 _ rfl;have z3:=qb d 3 _ rfl;have f3:=qg d 3;have c4:=qb g 4 _ rfl;have z4:=qb d 4 _ rfl;have f4:=qg d 4;have c5:=qb g 5 _ rfl;have z5:=qb d 5 _ rfl;have f5:=qg d 5;have c6:=qb g 6 _ rfl;have z6:=qb d 6 _ rfl;have f6:=qg d 6;have c7:=qb g 7 _ rfl;have z7:=qb d 7 _ rfl;have f7:=qg d 7;have c8:=qb g 8 _ rfl;have z8:=qb d 8 _ rfl;have f8:=qg d 8;have c9:=qb g 9 _ rfl;have z9:=qb d 9 _ rfl;have f9:=qg d 9;have aM:=qb g 10 _ rfl;have aN:=qb d 10 _ rfl;have bo:=qg d 10;have aF:=qb g 11 _ rfl;have aO:=qb d 11 _ rfl;have bp:=qg d 11;have aW:=qb g 12 _ rfl;have aL:=qb d 12 _ rfl;have bM:=qg d 12;have aT:=qb g 13 _ rfl;have aS:=qb d 13 _ rfl;have bF:=qg d 13;have aK:=qb g 14 _ rfl;have aV:=qb d 14 _ rfl;have bq:=qg d 14;have aP:=qb g 15 _ rfl;have aJ:=qb d 15 _ rfl;have bx:=qg d 15;simp only [zD]at c0 z0 c1 z1 c2 z2 c3 z3 c4 z4 c5 z5 c6 z6 c7 z7 c8 z8 c9 z9 aM aN aF aO aW aL aT aS aK aV aP aJ;have l1:w.heap.size<W1.heap.size:=wC
 have l2:w.heap.size+1<W1.heap.size:=wC
 have kw:Keep (fun k=>k<w.heap.size) w W1:=(am.mt).trans (an.mono fun b _ h=>wC);clear aq ay U n1 n2 ao am an X aG;refine hd5 ?_ hs ar d g kw;clear hs ar d g kw;intro bj a9 az aH aR
 go_enter Tryz.func98,Tryz.ntmps98
 go_wp2_with fail;refine qiv (fun W=>W.heap[w.heap.size]?=some (.cells #[.int .i64 k0,.int .i64 k1,.int .i64 k2,.int .i64 Y,.int .i64 k4,.int .i64 k5,.int .i64 k6,.int .i64 k7,.int .i64 k8,.int .i64 k9,.int .i64 p,.int .i64 s,.int .i64 l,.int .i64 q,.int .i64 z,.int .i64 y] 176 (0,0))/\Keep (fun k=>k<w.heap.size) w W) (w:=qhg w.heap.size [.int .i64 k0,.int .i64 k1,.int .i64 k2,.int .i64 Y,.int .i64 k4,.int .i64 k5,.int .i64 k6,.int .i64 k7,.int .i64 k8,.int .i64 k9,.int .i64 p,.int .i64 s,.int .i64 l,.int .i64 q,.int .i64 z,.int .i64 y] 0 W1) ⟨qhh [.int .i64 k0,.int .i64 k1,.int .i64 k2,.int .i64 Y,.int .i64 k4,.int .i64 k5,.int .i64 k6,.int .i64 k7,.int .i64 k8,.int .i64 k9,.int .i64 p,.int .i64 s,.int .i64 l,.int .i64 q,.int .i64 z,.int .i64 y] az.o rfl,aR.o.trans ((qfh _ _ _ _).mono (fun b _ h=>wC))⟩ ?_;rintro W2 ⟨R,kq⟩;have r0:=qb R 0 _ rfl;have r1:=qb R 1 _ rfl;have r2:=qb R 2 _ rfl;have r3:=qb R 3 _ rfl;have r4:=qb R 4 _ rfl;have r5:=qb R 5 _ rfl;have r6:=qb R 6 _ rfl;have r7:=qb R 7 _ rfl;have r8:=qb R 8 _ rfl;have r9:=qb R 9 _ rfl;have aA:=qb R 10 _ rfl;have ax:=qb R 11 _ rfl;have au:=qb R 12 _ rfl;have aC:=qb R 13 _ rfl;have aw:=qb R 14 _ rfl;have av:=qb R 15 _ rfl;simp only [zD]at r0 r1 r2 r3 r4 r5 r6 r7 r8 r9 aA ax au aC aw av;clear R;refine hd1 ?_ kq;clear kq;intro aI;refine yA (v:=.agg #[.int .i64 k0,.int .i64 k1,.int .i64 k2,.int .i64 Y,.int .i64 k4,.int .i64 k5,.int .i64 k6,.int .i64 k7,.int .i64 k8,.int .i64 k9,.int .i64 p,.int .i64 s,.int .i64 l,.int .i64 q,.int .i64 z,.int .i64 y]) (by simp [results,Tryz.results98,go_sem,r0,r1,r2,r3,r4,r5,r6,r7,r8,r9,aA,ax,au,aC,aw,av]) rfl ⟨rfl,aI.o⟩
def qe3 (t l:List Int):List Int:=l.map fun c=>t.getD c.toNat 0
def qcr (t l:List Int):List Int:=qbc (qe3 t l)
theorem qke (t l:List Int):(qe3 t l).length=l.length:=by simp [qe3]
theorem q7t {t:List Int}(x:Int)(h:t.length<16):((qbc t).map (Value.int .i64)).toArray.setIfInBounds t.length (.int .i64 x)=((qbc (t++ [x])).map (.int .i64)).toArray:=by
 apply Array.ext';simp only [Array.toList_setIfInBounds,←map_set]
 congr 1
 unfold qbc;have:16-t.length=(16-(t++ [x]).length)+1:=by simp;omega
 rw [this,replicate_succ,set_append_right _ _ (zG _),xa,set_cons_zero,yu,singleton_append]
theorem q7u (w:World)(v vl:Value)(t l:List Int)(hs:qat w.heap.size w v t)(hl:qat w.heap.size w vl l)(ab:l.length<=16)(aH: ∀c∈l,0<=c/\c<t.length):
  Calls prog 133 #[v,vl] w fun e w'=>e=.returned (qhl (qcr t l))/\Keep (fun k=>k<w.heap.size) w w':=by
 obtain⟨a,c,rfl,cc,b0,aC⟩:=id hs;obtain⟨a2,c2,rfl,bu,br,ap⟩:=id hl;obtain⟨W0,ao⟩:=ex ((w.alloc (.cells #[.int .i64 0,.int .i64 0,.int .i64 0,.int .i64 0,.int .i64 0,.int .i64 0,.int .i64 0,.int .i64 0,.int .i64 0,.int .i64 0,.int .i64 0,.int .i64 0,.int .i64 0,.int .i64 0,.int .i64 0,.int .i64 0] 176)).alloc (.cells #[.int .i64 0,.int .i64 0,.int .i64 0,.int .i64 0,.int .i64 0,.int .i64 0,.int .i64 0,.int .i64 0,.int .i64 0,.int .i64 0,.int .i64 0,.int .i64 0,.int .i64 0,.int .i64 0,.int .i64 0,.int .i64 0] 176));have aB:wG w W0:=by rw [←ao];exact kAl.trans kAl
 have s0:W0.heap.size=w.heap.size+1+1:=by rw [←ao];simp
 have n1:W0.heap[w.heap.size]?=some (.cells #[.int .i64 0,.int .i64 0,.int .i64 0,.int .i64 0,.int .i64 0,.int .i64 0,.int .i64 0,.int .i64 0,.int .i64 0,.int .i64 0,.int .i64 0,.int .i64 0,.int .i64 0,.int .i64 0,.int .i64 0,.int .i64 0] 176 (0,0)):=by rw [←ao];exact qf3 (qh _ _) _
 have n2:W0.heap[w.heap.size+1]?=some (.cells ((qbc (qe3 t (l.take 0))).map (.int .i64)).toArray 176 (0,0)):=by rw [←ao];simp only [qao,zO];simp;rfl
 refine hd8 ?_ hs hl aC ap aH n1 n2 aB;clear hs hl aC ap aH n1 n2 aB;intro bM ca aO ay aQ a1 aZ aK
 go_enter Tryz.func133,Tryz.ntmps133
 go_wp2_with fail
 go_loopw [10] (fun i wr=> ∃k:Nat,k<=l.length/\i=.int .i64 k/\Keep (fun j=>j≠w.heap.size+1) W0 wr/\wr.heap[w.heap.size+1]?=some (.cells ((qbc (qe3 t (l.take k))).map (.int .i64)).toArray 176 (0,0))) (fun i _=>l.length-(intOf i).toNat)
 case atStart=>exact⟨0,wC,rfl,Keep.refl _ _,aZ.o⟩
 case round=>
  obtain⟨k,hk,rfl,hK,m⟩:=hrel;have bw:=hK.size;have U:Keep (fun j=>j<w.heap.size) w wr:=(aK.o.mt).trans (hK.mono fun b _ h=>wC);by_cases aL:k<l.length
  ·obtain⟨x,hx⟩: ∃x,l[k]?=some x:=⟨_,zB aL⟩;have aa:=aQ.o x (zH hx);obtain⟨y,hy⟩: ∃y,t[x.toNat]?=some y:=⟨_,zB wC⟩;obtain⟨b2,o2,rfl,a7,az⟩:=ay.o k x hx;obtain⟨b,o,rfl,hb,aw⟩:=aO.o x.toNat y hy;have az:=U.cell az a7;have aw:=U.cell aw hb;simp only [yB]at az aw;have g:b<wr.heap.size:=by omega
   have bm:b2<wr.heap.size:=wC
   have bk:(k:Int)<l.length:=wC
   have bF:(0:Int)<=k:=wC
   have ch:0<=x:=aa.1;have ce:x<t.length:=aa.2;have bi:(k:Int)<16:=wC
   have ba:w.heap.size+1<wr.heap.size:=wC
   have aD:(qe3 t (l.take k)).length=k:=by rw [qke,yC];omega
   have Y:=qag k (.int .i64 y) m;have X:qe3 t (l.take (k+1))=qe3 t (l.take k)++ [y]:=by
    unfold qe3;rw [zh,hx];simp [zJ,hy]
   have ax:=q7t y (t:=qe3 t (l.take k)) wC;rw [aD]at ax;rw [ax,←X]at Y;have bO:wr.frozen? ⟨w.heap.size+1,k,none⟩=false:=by simp [World.frozen?,m]
   obtain⟨u0,ci⟩: ∃u0,wr.cell? ⟨w.heap.size+1,k,none⟩=some u0:=by
    have a0:k<((qbc (qe3 t (l.take k))).map (Value.int .i64)).length:=by rw [zL,qh4 wC];omega
    have:=qb m k _ (by exact zB a0);rw [zD]at this;exact⟨_,this⟩
   have bS:(x.toNat:Int)=x:=wC
   clear ax X aD m hx hy aa;refine hd3 ?_ Y hK U;clear Y hK U;intro av aI aq;go_wp2_with fail;go_roundw
   case rel=>exact⟨k+1,wC,by go_num,aI.o.trans (kSc),av.o⟩
   case measure=>simp [intOf];omega
  ·obtain rfl:k=l.length:=by omega
   rw [zi]at m;have aA:(qe3 t l).length<=16:=by rw [qke];exact ab
   obtain⟨k0,k1,k2,k3,k4,k5,k6,k7,k8,k9,q,s,p,r,z,u,ad⟩: ∃k0 k1 k2 k3 k4 k5 k6 k7 k8 k9 q s p r z u,qbc (qe3 t l)= [k0,k1,k2,k3,k4,k5,k6,k7,k8,k9,q,s,p,r,z,u]:=by
    have ab:=qh4 aA
    match h:qbc (qe3 t l),ab with
    | [k0,k1,k2,k3,k4,k5,k6,k7,k8,k9,q,s,p,r,z,u],_=>exact⟨k0,k1,k2,k3,k4,k5,k6,k7,k8,k9,q,s,p,r,z,u,rfl⟩
   have ar:qhl (qcr t l)=.agg #[.int .i64 k0,.int .i64 k1,.int .i64 k2,.int .i64 k3,.int .i64 k4,.int .i64 k5,.int .i64 k6,.int .i64 k7,.int .i64 k8,.int .i64 k9,.int .i64 q,.int .i64 s,.int .i64 p,.int .i64 r,.int .i64 z,.int .i64 u]:=by unfold qcr;rw [ad];rfl
   rw [ad]at m;have g:wr.heap[w.heap.size+1]?=some (.cells #[.int .i64 k0,.int .i64 k1,.int .i64 k2,.int .i64 k3,.int .i64 k4,.int .i64 k5,.int .i64 k6,.int .i64 k7,.int .i64 k8,.int .i64 k9,.int .i64 q,.int .i64 s,.int .i64 p,.int .i64 r,.int .i64 z,.int .i64 u] 176 (0,0)):=m;have d:=hK.heap a1.o wC;have c0:=qb g 0 _ rfl;have z0:=qb d 0 _ rfl;have f0:=qg d 0;have c1:=qb g 1 _ rfl;have z1:=qb d 1 _ rfl;have f1:=qg d 1;have c2:=qb g 2 _ rfl;have z2:=qb d 2 _ rfl;have f2:=qg d 2;have c3:=qb g 3 _ rfl;have z3:=qb d 3 _ rfl;have f3:=qg d 3;have c4:=qb g 4 _ rfl;have z4:=qb d 4 _ rfl;have f4:=qg d 4;have c5:=qb g 5 _ rfl;have z5:=qb d 5 _ rfl;have f5:=qg d 5;have c6:=qb g 6 _ rfl;have z6:=qb d 6 _ rfl;have f6:=qg d 6;have c7:=qb g 7 _ rfl;have z7:=qb d 7 _ rfl;have f7:=qg d 7;have c8:=qb g 8 _ rfl;have z8:=qb d 8 _ rfl;have f8:=qg d 8;have c9:=qb g 9 _ rfl;have z9:=qb d 9 _ rfl;have f9:=qg d 9;have aY:=qb g 10 _ rfl;have a3:=qb d 10 _ rfl;have bU:=qg d 10;have aT:=qb g 11 _ rfl;have a4:=qb d 11 _ rfl;have bV:=qg d 11;have bd:=qb g 12 _ rfl;have aX:=qb d 12 _ rfl;have cd:=qg d 12;have a9:=qb g 13 _ rfl;have a8:=qb d 13 _ rfl;have b8:=qg d 13;have aW:=qb g 14 _ rfl;have bc:=qb d 14 _ rfl;have bW:=qg d 14;have a5:=qb g 15 _ rfl;have aV:=qb d 15 _ rfl;have b5:=qg d 15;simp only [zD]at c0 z0 c1 z1 c2 z2 c3 z3 c4 z4 c5 z5 c6 z6 c7 z7 c8 z8 c9 z9 aY a3 aT a4 bd aX a9 a8 aW bc a5 aV;have l1:w.heap.size<wr.heap.size:=wC
   have l2:w.heap.size+1<wr.heap.size:=wC
   clear m ad g;refine hd4 ?_ d U ar hK;clear d U ar hK;intro aP aq au aI;go_wp2_with fail;refine qiv (fun W=>W.heap[w.heap.size]?=some (.cells #[.int .i64 k0,.int .i64 k1,.int .i64 k2,.int .i64 k3,.int .i64 k4,.int .i64 k5,.int .i64 k6,.int .i64 k7,.int .i64 k8,.int .i64 k9,.int .i64 q,.int .i64 s,.int .i64 p,.int .i64 r,.int .i64 z,.int .i64 u] 176 (0,0))/\Keep (fun k=>k<w.heap.size) w W) (w:=qhg w.heap.size [.int .i64 k0,.int .i64 k1,.int .i64 k2,.int .i64 k3,.int .i64 k4,.int .i64 k5,.int .i64 k6,.int .i64 k7,.int .i64 k8,.int .i64 k9,.int .i64 q,.int .i64 s,.int .i64 p,.int .i64 r,.int .i64 z,.int .i64 u] 0 wr) ⟨qhh [.int .i64 k0,.int .i64 k1,.int .i64 k2,.int .i64 k3,.int .i64 k4,.int .i64 k5,.int .i64 k6,.int .i64 k7,.int .i64 k8,.int .i64 k9,.int .i64 q,.int .i64 s,.int .i64 p,.int .i64 r,.int .i64 z,.int .i64 u] aP.o rfl,aq.o.trans ((qfh _ _ _ _).mono (fun b _ h=>wC))⟩ ?_;rintro W2 ⟨R,kq⟩;have r0:=qb R 0 _ rfl;have r1:=qb R 1 _ rfl;have r2:=qb R 2 _ rfl;have r3:=qb R 3 _ rfl;have r4:=qb R 4 _ rfl;have r5:=qb R 5 _ rfl;have r6:=qb R 6 _ rfl;have r7:=qb R 7 _ rfl;have r8:=qb R 8 _ rfl;have r9:=qb R 9 _ rfl;have aM:=qb R 10 _ rfl;have aJ:=qb R 11 _ rfl;have aE:=qb R 12 _ rfl;have aN:=qb R 13 _ rfl;have aG:=qb R 14 _ rfl;have aF:=qb R 15 _ rfl;simp only [zD]at r0 r1 r2 r3 r4 r5 r6 r7 r8 r9 aM aJ aE aN aG aF;clear R;refine hd1 ?_ kq;clear kq;intro aU;refine yA (v:=.agg #[.int .i64 k0,.int .i64 k1,.int .i64 k2,.int .i64 k3,.int .i64 k4,.int .i64 k5,.int .i64 k6,.int .i64 k7,.int .i64 k8,.int .i64 k9,.int .i64 q,.int .i64 s,.int .i64 p,.int .i64 r,.int .i64 z,.int .i64 u]) (by simp [results,Tryz.results133,go_sem,r0,r1,r2,r3,r4,r5,r6,r7,r8,r9,aM,aJ,aE,aN,aG,aF]) rfl ⟨by rw [au.o],aU.o⟩
end Go.Proofs.R4
namespace Go.Proofs.R4
open Go.RowKit Go.Ink Go.WideMaps
def okI (x:Int):Prop:= -9223372036854775808<=x/\x<=9223372036854775807
def okT (t:List Int):Prop:= ∀x∈t,okI x
theorem qlk:ArrKey prog 176 3 16:=⟨Tryz.underlying176,wD,wD,wD⟩
theorem qrw:ArrKey prog 179 4 16:=⟨Tryz.underlying179,wD,wD,wD⟩
theorem qmf: ∃m,prog.types.size=m+1:=⟨prog.types.size-1,by
 have:0<prog.types.size:=yE wD;omega⟩
theorem qsw {α β:Type}(f:α->Option β): ∀L:List α,(∀i∈L,∃x,f i=some x)-> ∃xs,L.mapM f=some xs
 | [],_=>⟨[],rfl⟩
 |i::L,h=>by
  obtain⟨x,hx⟩:=h i wE;obtain⟨xs,b⟩:=qsw f L (fun j c=>h j (by simp [c]));exact⟨x::xs,by rw [mapM_cons,hx,b];rfl⟩
theorem qsx {P:Program}{k e:TypeId}{n:Nat}(A:ArrKey P k e n)(b: ∃m,P.types.size=m+1)(vs:List Value)(g:vs.length=n)(h: ∀v∈vs,∃l,∀D,P.keyLits (D+1) e [v]=some l): ∃l,keyOf P k (.agg vs.toArray)=some l:=by
 have c:=A.keyType b;obtain⟨m,r⟩:=b;unfold keyOf;simp only [A.hu];rw [zI (by simp [c,Value.formed,A.hu,A.size,g]),r];unfold Program.keyLits;simp only [A.hu,Value.cells];rw [zI (by rw [A.size];exact g)];obtain⟨xs,d⟩:=qsw (fun i=>P.keyLits (m+1) e ((vs.drop (i*P.cellsOf e)).take (P.cellsOf e))) (List.range n) (fun i hi=>by
  rw [A.one,yB];have hi:=yk.1 hi;have q:(vs.drop i).take 1= [vs[i]' wC]:=by
   rw [zt wC]
   rfl
  rw [q];obtain⟨l,p⟩:=h _ (xG (by omega:i<vs.length));exact⟨l,p m⟩)
 simp only [d];exact⟨_,rfl⟩
theorem qq1 {k:List Int}(d:k.length=16)(h:okT k): ∃l,keyOf prog 176 (qhl k)=some l:=
 qsx qlk qmf _ (by simp [d]) (fun v c=>by
  obtain⟨x,e,rfl⟩:=yL.1 c;have:=h x e;refine⟨[.int .i64 x],fun D=>?_⟩;unfold Program.keyLits;have b:(Lit.int .i64 x).wf=true:=by
   simp only [Lit.wf,zV,zT];exact this
  simp only [Tryz.underlying3,b,and_self,yj])
def qio (c:List Bool):Value:=.agg (c.map .bool).toArray
theorem qve: ∀a b:List Bool,qio a=qio b->a=b:=by
 intro a b h;unfold qio at h;injection h with h
 have c:a.map Value.bool=b.map .bool:=by simpa using yO Array.toList h
 clear h
 induction a generalizing b with
 |nil=>cases b with
  |nil=>rfl
  |cons y b=>simp at c
 |cons x a ih=>cases b with
  |nil=>simp at c
  |cons y b=>
   simp only [yZ,List.cons.injEq,Value.bool.injEq]at c;rw [c.1,ih b c.2]
theorem q80 {c:List Bool}(d:c.length=16): ∃l,keyOf prog 179 (qio c)=some l:=
 qsx qrw qmf _ (by simp [d]) (fun v b=>by
  obtain⟨x,e,rfl⟩:=yL.1 b;refine⟨[.bool x],fun D=>?_⟩;unfold Program.keyLits;rw [Tryz.underlying4])
theorem qok {t:List Int}(h:okT t):okT (qbc t):=by
 intro x b;unfold qbc at b;rcases zr.1 b with b |b
 ·exact h x b
 ·have:=eq_of_mem_replicate b;subst this;exact⟨wF,wF⟩
theorem q7v {t l:List Int}(h:okT t):okT (qe3 t l):=by
 intro x b;unfold qe3 at b;obtain⟨c,_,rfl⟩:=yL.1 b;rw [zJ];cases d:t[c.toNat]? with
 |none=>exact⟨wF,wF⟩
 |some y=>exact h y (zH d)
inductive Tag where
 |box |data |pmap |kmap
 |lbox (c:List Bool) |llist (c:List Bool) |lmap (c:List Bool)
 |ent (c:List Bool) (k:List Int) (p:Nat)
abbrev qcg:=Nat->Option Tag
def qci:Option Tag->Option (List Bool)
 |some (.lbox c) |some (.llist c) |some (.lmap c) |some (.ent c _ _)=>some c
 |_=>none
def TagLe (s t:qcg):Prop:= ∀b T,s b=some T->t b=some T∨ ∃c k p q,T=.ent c k p/\t b=some (.ent c k q)/\p<=q
theorem TagLe.refl (s:qcg):TagLe s s:=fun _ _ h=>.inl h
theorem TagLe.trans {s t u:qcg}(h:TagLe s t)(g:TagLe t u):TagLe s u:=by
 intro b T d;rcases h b T d with h1 |⟨c,k,p,q,rfl,h1,hpq⟩
 ·exact g b T h1
 ·rcases g b _ h1 with h2 |⟨c2,k2,p2,q2,h3,h2,hpq2⟩
  ·exact .inr ⟨c,k,p,q,rfl,h2,hpq⟩
  ·cases h3;exact .inr ⟨c,k,p,q2,rfl,h2,wC⟩
def qav (l:List Int):List Bool:=(List.range 16).map fun i:Nat=>decide ((i:Int)∈l)
def idx (ts:List (List Int))(l k:List Int):List Nat:=(List.range ts.length).filter fun i=>decide (qcr (ts.getD i []) l=k)
theorem qll (ts:List (List Int))(t l k:List Int):idx (ts++ [t]) l k=idx ts l k++(if qcr t l=k then [ts.length] else []):=by
 unfold idx;rw [zR,length_singleton,xz,yV]
 congr 1
 ·refine filter_congr fun i hi=>?_;rw [yk]at hi;rw [zJ,zJ,yS hi]
 ·by_cases b:qcr t l=k
  ·simp [yg,zJ,b]
  ·simp [yg,zJ,b]
theorem qyn (ts:List (List Int))(l k:List Int):(idx ts l k).length<=ts.length:=by
 unfold idx;exact zW (yf _ _) wE
abbrev qip (i:Nat):Value:=.int .i64 (i:Int)
abbrev q3b (w:World)(M:Nat)(m:List (List Int×Value)):Prop:=MapIn prog 176 qhl (fun v:Value=>v) w M m
structure LookAt (tag:qcg)(w:World)(n:Nat)(ts:List (List Int))(c:List Bool)(L:Nat)(l:List Int)(vl:Value)(M:Nat)(m:List (List Int×Value)):Prop where
 row:qd8 n l=true
 mask:qav l=c
 tagL:tag L=some (.lbox c)
 box:w.heap[L]?=some (.cells #[vl,.map (some M)] 229 (0,0))
 tagM:tag M=some (.lmap c)
 map:q3b w M m
 list:w.ownsRow 0 3 1 vl l.length (l.map (.int .i64))
 tagl: ∀b,vl.ownBlock=some b->tag b=some (.llist c)
 keys: ∀k,k∈m.map (·.1)↔ ∃t∈ts,qcr t l=k
 few:m.length<=ts.length
 ents: ∀k v,(k,v)∈m->w.ownsRow 0 3 1 v (idx ts l k).length ((idx ts l k).map qip)/\ ∀b,v.ownBlock=some b->tag b=some (.ent c k (idx ts l k).length)
 blocks: ∀b k p,tag b=some (.ent c k p)-> ∀j,j<p-> ∃i,(idx ts l k)[j]?=some i/\w.cell? ⟨b,j,none⟩=some (qip i)
theorem LookAt.keep {tag tag':qcg}{w w':World}{n:Nat}{ts:List (List Int)}{c:List Bool}{L M:Nat}{l:List Int}{s:Value}{m:List (List Int×Value)}{C:Nat->Prop}(h:LookAt tag w n ts c L l s M m)(hK:Keep C w w')(e: ∀b,qci (tag b)=some c->C b)(q: ∀b,qci (tag b)=some c->tag' b=tag b)(u: ∀b,qci (tag' b)=some c->tag' b=tag b):LookAt tag' w' n ts c L l s M m:=by
 have y:qci (tag L)=some c:=by rw [h.tagL];rfl
 have R:qci (tag M)=some c:=by rw [h.tagM];rfl
 have z: ∀b,s.ownBlock=some b->qci (tag b)=some c:=fun b d=>by rw [h.tagl b d];rfl
 refine⟨h.row,h.mask,(q L y).trans h.tagL,hK.heap h.box (e L y),(q M R).trans h.tagM,h.map.keep hK (e M R),qf h.list hK (fun b d=>e b (z b d)),fun b d=>(q b (z b d)).trans (h.tagl b d),h.keys,h.few,fun k v t=>?_,fun b k p d j X=>?_⟩
 ·obtain⟨r,g⟩:=h.ents k v t;have U: ∀b,v.ownBlock=some b->qci (tag b)=some c:=fun b d=>by rw [g b d];rfl
  exact⟨qf r hK (fun b d=>e b (U b d)),fun b d=>(q b (U b d)).trans (g b d)⟩
 ·have x:=u b (by rw [d];rfl);rw [d]at x;obtain⟨i,r,g⟩:=h.blocks b k p x.symm j X;exact⟨i,r,hK.cell g (e b (by rw [←x];rfl))⟩
structure TagStep (c:List Bool)(tag tag':qcg)(w w':World):Prop where
 le:TagLe tag tag'
 old: ∀b,b<w.heap.size->qci (tag b)≠some c->tag' b=tag b
 new: ∀b T,tag' b=some T->b<w'.heap.size/\(w.heap.size<=b->qci (some T)=some c)
 ents: ∀b c',qci (tag' b)=some c'->qci (tag b)=some c'∨c'=c
theorem qvf: ∀w:World,(zeroValue 86).run prog w=.ok (.slice none 0 0) w:=fun w=>wD
theorem q3c {tag:qcg}{W W2:World}{n:Nat}{ts:List (List Int)}{c:List Bool}{L M:Nat}{l:List Int}{vl:Value}{m:List (List Int×Value)}(h:LookAt tag W n ts c L l vl M m)(aj: ∀b T,tag b=some T->b<W.heap.size)(t:List Int)(aL:ts.length<=536870912)
  (af:Keep (fun b=>b≠M) W W2) (aQ:W2.heap.size=W.heap.size+1) (aC:W2.heap[W.heap.size]?=some (.cells #[qip ts.length] 3 (0,0))) (v0:Value) (ay:(∃v,(qcr t l,v)∈m/\v0=v)∨(qcr t l∉m.map (·.1)/\v0=.slice none 0 0)) (st:Int)
  (aB: ∀w2:World,w2.heap[M]?=W2.heap[M]?-> ∀v:Value,∃w3,(Instr.entryStore 227 (.map (some M)) (.int .i64 st) v).run prog w2=.ok () w3/\q3b w3 M (setK m (qcr t l) v)/\Keep (fun j=>j≠M) w2 w3/\w3.heap.size=w2.heap.size):
  ∃v' W3 W4,(Builtin.append_ #[86,86] 86 #[v0,.slice (some ⟨W.heap.size,0,none⟩) 1 1]).run prog W2=.ok v' W3/\(Instr.entryStore 227 (.map (some M)) (.int .i64 st) v').run prog W3=.ok () W4/\Keep (fun b=>b≠M/\ ∀k p,tag b≠some (.ent c k p)) W W3/\
   ∃tag',LookAt tag' W4 n (ts++ [t]) c L l vl M (setK m (qcr t l) v')/\TagStep c tag tag' W W4/\Keep (fun b=>qci (tag b)≠some c) W W4:=by
 have aH:=aj M _ h.tagM;have ai:W.ownsRow 0 3 1 v0 (idx ts l (qcr t l)).length ((idx ts l (qcr t l)).map qip)/\ ∀b,v0.ownBlock=some b->tag b=some (.ent c (qcr t l) (idx ts l (qcr t l)).length):=by
  rcases ay with ⟨v,hv,rfl⟩ |⟨y,rfl⟩
  ·exact h.ents _ _ hv
  ·have:idx ts l (qcr t l)= []:=by
    refine filter_eq_nil_iff.2 fun i hi=>?_;rw [yk]at hi;simp only [zT];intro he;refine y ((h.keys _).2 ⟨ts.getD i [],?_,he⟩);rw [zJ,zB hi];exact xG hi
   rw [this];exact⟨zj _ _ _ _,fun b d=>by simp [Value.ownBlock] at d⟩
 obtain⟨am,ao⟩:=ai;have aF: ∀b,v0.ownBlock=some b->b≠M:=fun b d e=>by have:=ao b d;rw [e,h.tagM] at this;cases this
 have av:=qf am af aF;have aK:=qyn ts l (qcr t l);obtain⟨v',W3,au,ak,g,cap,ae,hg,aR,R⟩:=q8r qnm 86 av ⟨W.heap.size,0,none⟩ 1 1 [qip ts.length] rfl (fun j u hj=>by
  have:=qb aC j u (by simpa using hj);simp only [zD]at this;rw [show((⟨W.heap.size,0,none⟩:Addr).add j)=⟨W.heap.size,j,none⟩ from by unfold Addr.add;split<;>simp_all];exact this) (by simp [Value.oneCell']) wC wC wC
 have r:tag g=some (.ent c (qcr t l) (idx ts l (qcr t l)).length)∨(tag g=none/\W.heap.size<g):=by
  rcases hg with hg |hg
  ·exact .inl (ao g hg)
  ·refine .inr ⟨?_,wC⟩;cases hT:tag g with
   |none=>rfl
   |some T=>have:=aj g T hT;omega
 have x: ∀b,qci (tag b)=some c->(∀p,tag b≠some (.ent c (qcr t l) p))->b≠g:=fun b d y e=>by
  subst e;rcases r with s |⟨s,_⟩
  ·exact y _ s
  ·rw [s]at d;cases d
 have U:M≠g:=x M (by rw [h.tagM];rfl) (fun p=>by rw [h.tagM];exact fun e=>(by cases e));obtain⟨W4,aD,aE,ah,aP⟩:=aB W3 (R.block M wC U) v';have aN:=R.size;have z:Keep (fun b=>b≠M/\b≠g) W W4:=(af.mono fun b _ h=>h.1).trans ((R.mono fun b _ h=>h.2).trans (ah.mono fun b _ h=>h.1));have aA:Keep (fun b=>b≠M/\ ∀k p,tag b≠some (.ent c k p)) W W3:=(af.mono fun b _ h=>h.1).trans (R.mono fun b d h e=>by
  subst e;rcases r with s |⟨_,s⟩
  ·exact h.2 _ _ s
  ·rcases hg with hg |hg
   ·have:=(zE am _ hg).2;omega
   ·omega)
 refine⟨v',W3,W4,au,aD,aA,fun b=>if b=g then some (.ent c (qcr t l) ((idx ts l (qcr t l)).length+1)) else tag b,?_,⟨?_,?_,?_,?_⟩,?_⟩
 ·have aw: ∀b,qci (tag b)=some c->b≠M->b≠g->b≠M/\b≠g:=fun b _ s Y=>⟨s,Y⟩;have hL:L≠M/\L≠g:=⟨fun e=>(by have:=h.tagL;rw [e,h.tagM] at this;cases this),x L (by rw [h.tagL];rfl) (fun p=>by rw [h.tagL];exact fun e=>(by cases e))⟩;have ap: ∀b,vl.ownBlock=some b->b≠M/\b≠g:=fun b d=>⟨fun e=>(by have:=h.tagl b d;rw [e,h.tagM] at this;cases this),x b (by rw [h.tagl b d];rfl) (fun p=>by rw [h.tagl b d];exact fun e=>(by cases e))⟩;refine⟨h.row,h.mask,by rw [zF hL.2];exact h.tagL,z.heap h.box hL,by rw [zF U];exact h.tagM,aE,qf h.list z ap,fun b d=>by rw [zF (ap b d).2];exact h.tagl b d,fun k=>?_,?few,fun k v X=>?_,fun b k p d j hj=>?_⟩
  case few=>
   have:=h.few;unfold setK;split<;>simp<;>omega
  ·have ar:k∈(setK m (qcr t l) v').map (·.1)↔k∈m.map (·.1)∨k=qcr t l:=by
    by_cases ag:qcr t l∈m.map (·.1)
    ·rw [qnj ag];exact⟨.inl,fun h=>h.elim id (fun e=>e▸ag)⟩
    ·unfold setK;rw [zF ag];simp
   rw [ar,h.keys];constructor
   ·rintro(⟨t1,ht1,e⟩ |e)
    ·exact⟨t1,by simp [ht1],e⟩
    ·exact⟨t,wE,e.symm⟩
   ·rintro⟨t1,ht1,e⟩;rcases zr.1 ht1 with ht1 |ht1
    ·exact .inl ⟨t1,ht1,e⟩
    ·have:t1=t:=by simpa using ht1
     subst this;exact .inr e.symm
  ·have ad:(k=qcr t l/\v=v')∨(k≠qcr t l/\(k,v)∈m):=by
    unfold setK at X;split at X
    ·obtain⟨p,hp,he⟩:=yL.1 X;split at he
     ·rename_i e1;cases he;exact .inl ⟨rfl,rfl⟩
     ·rename_i e1;subst he;exact .inr ⟨e1,hp⟩
    ·rename_i y;rcases zr.1 X with hp |hp
     ·exact .inr ⟨fun e=>y (e▸yL.2 ⟨_,hp,rfl⟩),hp⟩
     ·simp at hp;exact .inl hp
   rcases ad with ⟨rfl,rfl⟩ |⟨hne,hmem⟩
   ·rw [qll,zI rfl];refine⟨?_,fun b d=>?_⟩
    ·have:=qf ak ah (fun b d=>by rw [ae] at d;simp only [Value.ownBlock,yd] at d;rw [←d];exact fun e=>U e.symm)
     simpa using this
    ·rw [ae]at d;simp only [Value.ownBlock,yd]at d;rw [zI d.symm];simp
   ·rw [qll,zF (fun e=>hne e.symm),yQ];obtain⟨s,Y⟩:=h.ents k v hmem;have h3: ∀b,v.ownBlock=some b->b≠M/\b≠g:=fun b d=>⟨fun e=>(by have:=Y b d;rw [e,h.tagM] at this;cases this),x b (by rw [Y b d];rfl) (fun p=>by rw [Y b d];exact fun e=>by cases e;exact hne rfl)⟩;exact⟨qf s z h3,fun b d=>by rw [zF (h3 b d).2];exact Y b d⟩
  ·by_cases q:b=g
   ·subst q;rw [zI rfl]at d;simp only [yd,Tag.ent.injEq,true_and]at d;obtain⟨hk,rfl⟩:=d;subst hk;rw [qll,zI rfl];obtain⟨i,hi⟩: ∃i,(idx ts l (qcr t l)++ [ts.length])[j]?=some i:=⟨_,zB (by simp;omega)⟩;refine⟨i,hi,?_⟩;rw [ae]at ak;have:=qcp ak j (qip i) (by rw [show(idx ts l (qcr t l)).map qip++ [qip ts.length]=(idx ts l (qcr t l)++ [ts.length]).map qip from wE,zP,hi];rfl);exact ah.cell this (fun e=>U e.symm)
   ·rw [zF q]at d;obtain⟨i,s,Y⟩:=h.blocks b k p d j hj;refine⟨i,?_,z.cell Y ⟨fun e=>?_,q⟩⟩
    ·rw [qll,yS (zA.1 s).1];exact s
    ·simp only at e;rw [e,h.tagM]at d;cases d
 ·intro b T d;by_cases q:b=g
  ·subst q;rcases r with s |⟨s,_⟩
   ·rw [s]at d;cases d;exact .inr ⟨c,_,_,_,rfl,zI rfl,wC⟩
   ·rw [s]at d;cases d
  ·exact .inl (by show(if b=g then _ else _)=_;rw [zF q];exact d)
 ·intro b aM d;have q:b≠g:=fun e=>by
   subst e;rcases r with s |⟨_,s⟩
   ·rw [s]at d;exact d rfl
   ·omega
  show(if b=g then _ else _)=_;rw [zF q]
 ·intro b T d;by_cases q:b=g
  ·subst q;simp only [yj]at d;cases d;exact⟨wC,fun _=>rfl⟩
  ·simp only [zF q]at d;have:=aj b T d;exact⟨wC,fun h=>wC⟩
 ·intro b c' d;by_cases q:b=g
  ·subst q;simp only [yj]at d;cases d;exact .inr rfl
  ·simp only [zF q]at d;exact .inl d
 ·refine z.mono fun b d hC=>⟨fun e=>?_,fun e=>?_⟩
  ·subst e;exact hC (by rw [h.tagM];rfl)
  ·subst e;rcases r with s |⟨_,s⟩
   ·exact hC (by rw [s];rfl)
   ·omega
end Go.Proofs.R4
