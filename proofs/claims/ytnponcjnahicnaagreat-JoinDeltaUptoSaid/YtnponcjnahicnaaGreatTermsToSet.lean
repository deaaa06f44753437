/- Parts of the proof. -/
import Derived.Test.YtnponcjnahicnaaGreatProg
import Derived.Test.YtnponcjnahicnaaGreatOwnToRowC
set_option linter.unusedSimpArgs false
set_option linter.unusedVariables false
set_option maxRecDepth 100000
set_option maxHeartbeats 2000000
open Go.Proofs.Tryz(prog)
open List(append_toArray cons_append getD_cons_succ getD_cons_zero getElem?_cons_succ getElem?_cons_zero getElem?_toArray length_cons length_nil nil_append nodup_nil push_toArray size_toArray)
namespace Go.Proofs.S12
open Go.RowKit Go.Ink
attribute [local go_sem] Oper.semAt_some
def qjg (n0 Bx:Nat)(w0:World)(cs:Array Value)(W:World):Prop:=W.heap[Bx]?=some (.cells cs 64 (0,0))/\Keep (fun k=>k<n0) w0 W
theorem qxw (n0 Bx:Nat)(w0:World)(L:LitD)(sa:Value)(R:qai n0 w0 sa L.atom.args)(aV:n0<=w0.heap.size):
  qy7 prog 142 #[.pointer (some ⟨Bx,0,none⟩)] (fun k=> #[(L.terms.getD k default).val]) L.terms.length (qjg n0 Bx w0 (qal L sa).toArray) (fun _=>False):=by
 intro l J Jx O0 W hl an hV hJ ak hY h0;refine qbr Tryz.func142 rfl ?_;simp only [Tryz.ntmps142,size_toArray,length_cons,length_nil,Nat.reduceAdd,Nat.reduceSub,Array.replicate_succ,Array.replicate_zero,push_toArray,append_toArray,nil_append,cons_append];obtain⟨a,cap,rfl,aI,aC,am⟩:=id R;obtain⟨hB,hK⟩:=id hV;have v:=qb hB;have c0:=v 0 _ rfl;have c1:=v 1 _ rfl;have c2:=v 2 _ rfl;simp only [zD,Nat.add_zero]at c0 c1 c2;have HJ:=zg hJ;have aP:=zg ak;have HY:=zg hY;have HV:=zg hV;have HB:=zg hB;have HK:=zg hK;have HO:=zg an;have HE:=zg am;have HS:=zg R;clear hJ ak hY hV hB hK an v am R;by_cases p:L.kind=1∨L.kind=2
 ·have m:L.terms=L.atom.args:=by simp [LitD.terms,p]
  have af:((L.kind==1)=true)∨((L.kind==1)=false/\(L.kind==2)=true):=by rcases p with h |h<;>simp [h]
  have y:=zg m;clear p m;rcases af with ah |⟨ah,av⟩
  all_goals
   gi_wp2;gi_loopw [14] (fun i wr=> ∃(k:Nat) (O:Nat->Prop),k<=L.atom.args.length/\i=.int .i64 k/\J k O wr/\qjg n0 Bx w0 (qal L (.slice a L.atom.args.length cap)).toArray wr/\W.heap.size<=wr.heap.size) (fun i _=>L.atom.args.length-(intOf i).toNat)
   case atStart=>exact⟨0,O0,wC,rfl,h0,HV.out,wC⟩
   case round=>
    obtain⟨k,O,hk,rfl,ai,al,aA⟩:=hrel;have aj:=zg ai;have x:=zg al;clear ai al h0 c0 c1 c2;by_cases X:k<L.atom.args.length
    ·obtain⟨t,m⟩: ∃t,L.atom.args[k]?=some t:=⟨_,zB X⟩;have ag:L.terms.getD k default=t:=by rw [y.out];simp [List.getD,m]
     obtain⟨b,off,rfl,hb,e1,e2⟩:=HE.out k t m;have d1:=x.out.2.cell e1 hb;have d2:=x.out.2.cell e2 hb;obtain⟨fn,tmps,assign,body,hy,z⟩:=HY.out k O (wr.alloc (.cells #[.bool t.var,.string t.text] 60)) (by rw [y.out];exact X)
      (HJ.out _ _ _ _ aj.out kAl) ⟨(Keep.alloc (fun _=>True) _ _).heap x.out.1 wH,x.out.2.trans kAl⟩ (by simp;omega)
     simp only [ag,TermD.val]at hy;have HR:=zg z;clear e1 e2 m ag z;gi_wp2;refine⟨rfl,HR.out.mono ?_⟩;rintro e Y ⟨O',s,u,d,g,(⟨rfl,c⟩ |⟨rfl,c⟩)⟩
     all_goals
      have ar:=zg d;have q:=zg g;have r:=zg c;have U:=d.size;simp at U;clear d g c s u HR hy;gi_wp2
     ·go_roundw
      case rel=>exact⟨k+1,O',wC,by go_num,r.out,q.out,wC⟩
      case measure=>simp [intOf];omega
     ·refine yA (yw rfl _ _ _) rfl ?_;exact⟨⟨_,rfl⟩,wC,q.out,O',.inr ⟨k,by rw [y.out];exact X,r.out⟩⟩
    ·gi_wp2
     go_end0
     obtain rfl:k=L.atom.args.length:=wC
     exact⟨⟨_,rfl⟩,aA,x.out,O,.inl (by rw [y.out];exact aj.out)⟩
 ·have ah:(L.kind==1)=false:=by simp;omega
  have av:(L.kind==2)=false:=by simp;omega
  by_cases h3:L.kind=3
  ·have aw:(L.kind==3)=true:=by simp [h3]
   have m:L.terms= [L.left,L.right]:=by simp [LitD.terms,h3]
   have hB:=HB.out;have v:=qb hB;have c3:=v 3 _ rfl;have c4:=v 4 _ rfl;simp only [zD]at c3 c4;obtain⟨fn,tmps,assign,body,hy,z⟩:=HY.out 0 O0 W (by rw [m];simp) h0 HV.out (zG _);simp only [m,getD_cons_zero,TermD.val]at hy;have HR:=zg z;have y:=zg m;clear p h3 m z hB v;gi_wp2;refine⟨rfl,HR.out.mono ?_⟩;rintro e Y ⟨O',s,u,d,g,(⟨rfl,c⟩ |⟨rfl,c⟩)⟩
   ·have v:=qb g.1;have c5:=v 5 _ rfl;have c6:=v 6 _ rfl;simp only [zD]at c5 c6;obtain⟨fn,tmps,assign,body,hy,z⟩:=HY.out 1 O' Y (by rw [y.out];simp) c g d.size;simp only [y.out,getD_cons_succ,getD_cons_zero,TermD.val]at hy;have HR:=zg z;have ar:=zg d;have U:=d.size;clear d g c s u z v;gi_wp2;refine⟨rfl,HR.out.mono ?_⟩;rintro e Y2 ⟨O2,s,u,d,g,c⟩;have q:=zg g;have aW:=d.size;have r:Hid (∃O',J L.terms.length O' Y2∨ ∃k,k<L.terms.length/\Jx k O' Y2):=zg (by
     rw [y.out];rcases c with ⟨_,h⟩ |⟨_,h⟩
     ·exact⟨O2,.inl h⟩
     ·exact⟨O2,.inr ⟨1,wE,h⟩⟩)
    rcases c with ⟨rfl,c⟩ |⟨rfl,c⟩
    all_goals
     clear s u d g c;gi_wp2
     go_end0
     exact⟨⟨_,rfl⟩,wC,q.out,r.out⟩
   ·have q:=zg g;have r:=zg c;have U:=d.size;clear d g c s u;gi_wp2
    go_end0
    exact⟨⟨_,rfl⟩,wC,q.out,O',.inr ⟨0,by rw [y.out];simp,r.out⟩⟩
  ·have aw:(L.kind==3)=false:=by simp [h3]
   have m:L.terms= []:=by simp [LitD.terms,p,h3]
   have y:=zg m;clear p h3 m;gi_wp2
   go_end0
   exact⟨⟨_,rfl⟩,zG _,HV.out,O0,.inl (by rw [y.out];exact h0)⟩
theorem q39 (L:LitD)(sa:Value)(w:World):Calls prog 115 #[.agg (qal L sa).toArray] w fun e w'=>
  e=.returned (.func (.func 142) #[] #[.pointer (some ⟨w.heap.size,0,none⟩)])/\w'=w.alloc (.cells (qal L sa).toArray 64):=by
 unfold qal
 go_enter Tryz.func115,Tryz.ntmps115
 go_wp2;go_ret;exact⟨rfl,rfl⟩
def qcz (r:RuleD)(sh sb:Value):List Value:= [.string r.head.pred,sh,sb]
def qgq (n0 Bx:Nat)(w0:World)(cs:Array Value)(W:World):Prop:=W.heap[Bx]?=some (.cells cs 27 (0,0))/\Keep (fun k=>k<n0) w0 W
theorem qc0 {n0 b:Nat}{d:World}{c:Array Value}{W e:World}{C:Nat->Prop}(h:qgq n0 b d c W)(hK:Keep C W e)(g: ∀k,k<n0->C k)(m:C b):qgq n0 b d c e:=
 ⟨hK.heap h.1 m,h.2.trans (hK.mono fun k _ l=>g k l)⟩
theorem qo9 {n0 b:Nat}{d:World}{c:Array Value}{W e:World}{C:Nat->Prop}(h:qjg n0 b d c W)(hK:Keep C W e)(g: ∀k,k<n0->C k)(m:C b):qjg n0 b d c e:=
 ⟨hK.heap h.1 m,h.2.trans (hK.mono fun k _ l=>g k l)⟩
structure StandsSt (n0 Bx:Nat)(w0:World)(cs:Array Value)(J:Nat->(Nat->Prop)->World->Prop)(S By Bh Bi:Nat)(yv:Value)(hc:Array Value)(iv:Int)(j:Nat)(Oo:Nat->Prop)(W:World):Prop where
 j:J j Oo W
 v:qgq n0 Bx w0 cs W
 s:S<=W.heap.size
 o: ∀b,Oo b->b<W.heap.size
 y:W.heap[By]?=some (.cells #[yv] 193 (0,0))
 h:W.heap[Bh]?=some (.cells hc 64 (0,0))
 i:W.heap[Bi]?=some (.cells #[.int .i64 iv] 3 (0,0))
 ny: ¬Oo By
 nh: ¬Oo Bh
 ni: ¬Oo Bi
 sy:S<=By
 sh:S<=Bh
 si:S<=Bi
theorem StandsSt.keep {n0 c:Nat}{q:World}{u:Array Value}{J:Nat->(Nat->Prop)->World->Prop}{S By g m:Nat}{t:Value}{x:Array Value}{r:Int}{j:Nat}{d:Nat->Prop}{W p:World}{C:Nat->Prop}
  (h:StandsSt n0 c q u J S By g m t x r j d W) (hJ: ∀k O X Y,J k O X->Keep (fun b=>(b<S/\ ¬False)∨O b) X Y->J k O Y) (hn:n0<=S) (hB:c<S)
  (hK:Keep C W p) (e: ∀b,b<S->C b) (U: ∀b,d b->C b) (z:C By) (R:C g) (ci:C m):StandsSt n0 c q u J S By g m t x r j d p:=
 {h with j:=hJ _ _ _ _ h.j (hK.mono fun b _ l=>l.elim (fun h=>e b h.1) (U b)),v:=qc0 h.v hK (fun k hk=>e k wC) (e _ hB),s:=zW h.s hK.size,o:=fun b l=>zk (h.o b l) hK.size,y:=hK.heap h.y z,h:=hK.heap h.h R,i:=hK.heap h.i ci}
theorem qn7 (n0 Bx:Nat)(w0:World)(r:RuleD)(sh sb:Value)(bD:qai n0 w0 sh r.head.args)(bL:qgh n0 w0 sb r.body)(cd:n0<=w0.heap.size)(dz:Bx<w0.heap.size+1):
  qy7 prog 114 #[.pointer (some ⟨Bx,0,none⟩)] (fun k=> #[.int .i64 (r.stands.getD k default).1,.string (r.stands.getD k default).2]) r.stands.length (qgq n0 Bx w0 (qcz r sh sb).toArray) (fun _=>False):=by
 intro l J Jx O0 W hl b9 hV hJ bR hY h0;refine qgb Tryz.func114 rfl ?_;simp only [Tryz.ntmps114,qd0,Nat.reduceAdd,Nat.reduceSub];obtain⟨ab,bl,rfl,dr,df,b7⟩:=id bL;obtain⟨ah,z,rfl,c9,cJ,bd⟩:=id bD;have aK:Bx<W.heap.size:=qe hV.1;have aO:n0<=W.heap.size:=zW cd hV.2.size;have c0:=qb hV.1 0 _ rfl;have c1:=qb hV.1 1 _ rfl;have c2:=qb hV.1 2 _ rfl;simp only [zD,Nat.add_zero]at c0 c1 c2;obtain⟨rc,bq⟩: ∃rc,rc=(qcz r (.slice ah r.head.args.length z) (.slice ab r.body.length bl)).toArray:=⟨_,rfl⟩;rw [←bq]at hV hY⊢;refine qhu ?_ b9 hV hJ bR hY b7 bd bL bD h0 bq;clear b9 hV hJ bR hY b7 bd bL bD h0 bq;intro bP aZ aR bf cQ b4 cP db bV cT cf;gi_wp2;refine wpIn_loop (fun a' wr=> ∃(u0 u1 u2 u3 u4 u5 u6 u7 u8 u9 u10 u11 u12 u13 u14 u15 u16 u17 u18 u19 u20 u21 u22 u23 u24 u25 u26 u27 u28 u29 u30 u31 u32 u33 u34 u35 u36 u37 u38:Value) (ds:List Deferred),(∃(i:Nat) (u:Nat->Prop) (Bi:Nat) (Ds:List Nat),i<=r.lits.length/\u1=.pointer (some ⟨Bx,0,none⟩)/\u2=.pointer (some ⟨W.heap.size,0,none⟩)/\u3=.pointer (some ⟨W.heap.size+1,0,none⟩)/\u4=.pointer (some ⟨Bi,0,none⟩)/\
   StandsSt n0 Bx w0 rc J W.heap.size W.heap.size (W.heap.size+1) Bi (.func (.yield l) #[] #[]) (qal r.headLit (.slice ah r.head.args.length z)).toArray ((i:Int)-1) (r.off i) u wr/\ds=q6l Ds/\Ds.Nodup/\(∀D,D∈Ds->W.heap.size<=D)/\MarksAt Ds u wr)/\
   a'={tmps:= #[u0,u1,u2,u3,u4,u5,u6,u7,u8,u9,u10,u11,u12,u13,u14,u15,u16,u17,u18,u19,u20,u21,u22,u23,u24,u25,u26,u27,u28,u29,u30,u31,u32,u33,u34,u35,u36,u37,u38],defers:=ds}) (fun a' wr=>(r.body.length+1-quf wr (a'.tmps.getD 4 undef)).toNat) ?atStart ?round
 case atStart=>
  refine⟨_,_,_,_,_,_,_,_,_,_,_,_,_,_,_,_,_,_,_,_,_,_,_,_,_,_,_,_,_,_,_,_,_,_,_,_,_,_,_,[],⟨0,O0,W.heap.size+1+1,[],wC,rfl,rfl,rfl,rfl,?_,rfl,nodup_nil,wE,by simp [MarksAt]⟩,rfl⟩;have k1:wG W (((W.alloc (Obj.cells #[Value.func (Fn.yield l) #[] #[]] 193)).alloc (.cells (qal r.headLit (.slice ah r.head.args.length z)).toArray 64)).alloc (.cells #[.int .i64 (((0:Nat):Int)-1)] 3)):=
   (kAl.trans kAl).trans kAl
  have n1:=qh W (Obj.cells #[Value.func (Fn.yield l) #[] #[]] 193);have n2:=qh (W.alloc (Obj.cells #[Value.func (Fn.yield l) #[] #[]] 193)) (.cells (qal r.headLit (.slice ah r.head.args.length z)).toArray 64);have n3:=qh ((W.alloc (Obj.cells #[Value.func (Fn.yield l) #[] #[]] 193)).alloc (.cells (qal r.headLit (.slice ah r.head.args.length z)).toArray 64)) (.cells #[.int .i64 (((0:Nat):Int)-1)] 3);simp only [zO]at n2 n3;have ho:=bP.o;exact {j:=aR.o _ _ _ _ cT.o k1.mt,v:=qc0 aZ.o k1 (fun _ _=>wH) wH,s:=k1.size,o:=fun b R=>zk (ho b R) k1.size,y:=qf3 (qf3 n1 _) _,h:=qf3 n2 _,i:=n3,ny:=fun h=>by have:=ho _ h;omega,nh:=fun h=>by have:=ho _ h;omega,ni:=fun h=>by have:=ho _ h;omega,sy:=wC,sh:=wC,si:=by omega}
 case round=>
  rintro a' wr ⟨u0,u1,u2,u3,u4,u5,u6,u7,u8,u9,u10,u11,u12,u13,u14,u15,u16,u17,u18,u19,u20,u21,u22,u23,u24,u25,u26,u27,u28,u29,u30,u31,u32,u33,u34,u35,u36,u37,u38,ds,⟨i,u,Bi,Ds,hi,rfl,rfl,rfl,rfl,af,rfl,aB,az,ar⟩,rfl⟩;have bj: ∀D,D∈Ds->D<wr.heap.size:=fun D hD=>qe (ar D hD).2;refine hd4 ?_ aB az ar bj;clear aB az ar bj;intro ad d x ak;have b1:=qbz af.i;have br:=qg af.i 0;have b2:=qbz af.y;have b3:=qb af.h;have e1:wr.cell? ⟨Bx,2,none⟩=some (.slice ab r.body.length bl):=by
   have:=af.v.1;rw [cf.o]at this;exact qb this 2 _ rfl
  have dL:=af.s;have dI:=qe af.i;clear c0 c1 c2;by_cases au:i<r.lits.length
  ·have aH: ∃L sa,r.lits[i]?=some L/\qai n0 w0 sa L.atom.args/\((i=0/\L=r.headLit/\sa=.slice ah r.head.args.length z)∨(∃m,i=m+1/\ ∃b off,ab=some ⟨b,off,none⟩/\b<n0/\CellsE w0 b (off+m*7) (qal L sa))):=by
    cases i with
    |zero=>exact⟨r.headLit,_,rfl,bV.o,.inl ⟨rfl,rfl,rfl⟩⟩
    |succ m=>
     have hm:m<r.body.length:=by simp [RuleD.lits] at au;omega
     obtain⟨b,off,ha,R,sa,bb,cD⟩:=b4.o m _ (zB hm);exact⟨r.body[m],sa,by simp [RuleD.lits,hm],cD,.inr ⟨m,rfl,b,off,ha,R,bb⟩⟩
   obtain⟨L,sa,bs,a5,aH⟩:=aH;have bi:(i:Int)-1<r.body.length:=by simp [RuleD.lits] at au;omega
   have bn:=q4z bs;have cU:L.atom.args.length<18446744073709551616:=by obtain⟨_,cap,_,h1,h2,_⟩:=a5;omega
   obtain⟨aa,ag,rfl,cY,cE,bg⟩:=id a5;refine hd5 ?_ af bs a5 bn bg;clear af bs a5 bn bg;intro ao bm ca bv cM;clear au;rcases aH with ⟨hi0,hL,hs⟩ |⟨m,him,b,off,rfl,R,bb⟩
   case' inl=>
    have d0:wr.cell? ⟨W.heap.size+1,0,none⟩=some (.int .i64 L.kind):=by rw [hL];exact b3 0 _ rfl
    have d1:wr.cell? ⟨W.heap.size+1,1,none⟩=some (.string L.atom.pred):=by rw [hL];exact b3 1 _ rfl
    have d2:wr.cell? ⟨W.heap.size+1,2,none⟩=some (.slice aa L.atom.args.length ag):=by rw [hs];exact b3 2 _ rfl
    have d3:wr.cell? ⟨W.heap.size+1,3,none⟩=some (.bool L.left.var):=by rw [hL];exact b3 3 _ rfl
    have d4:wr.cell? ⟨W.heap.size+1,4,none⟩=some (.string L.left.text):=by rw [hL];exact b3 4 _ rfl
    have d5:wr.cell? ⟨W.heap.size+1,5,none⟩=some (.bool L.right.var):=by rw [hL];exact b3 5 _ rfl
    have d6:wr.cell? ⟨W.heap.size+1,6,none⟩=some (.string L.right.text):=by rw [hL];exact b3 6 _ rfl
    have a9:wr.cell? ⟨Bi,0,none⟩=some (.int .i64 (-1)):=by rw [b1,hi0];rfl
    have aN:(-1:Int)<r.body.length:=wC
    clear b3 hL hs b1 hi0 bi
   case' inr=>
    have g: ∀j v,(qal L (.slice aa L.atom.args.length ag))[j]?=some v->wr.cell? ⟨b,off+m*7+j,none⟩=some v:=fun j v h=>ao.o.v.2.cell (bb j v h) R;have d0:=g 0 _ rfl;have d1:=g 1 _ rfl;have d2:=g 2 _ rfl;have d3:=g 3 _ rfl;have d4:=g 4 _ rfl;have d5:=g 5 _ rfl;have d6:=g 6 _ rfl;simp only [Nat.add_zero]at d0;have g0:=b3 0 _ rfl;have g1:=b3 1 _ rfl;have g2:=b3 2 _ rfl;have g3:=b3 3 _ rfl;have g4:=b3 4 _ rfl;have g5:=b3 5 _ rfl;have g6:=b3 6 _ rfl;simp only [zD,Nat.add_zero]at g0 g1 g2 g3 g4 g5 g6;have a9:wr.cell? ⟨Bi,0,none⟩=some (.int .i64 (m:Int)):=by rw [b1,him];congr 2;omega
    have aN:(m:Int)<r.body.length:=wC
    have bu:(0:Int)<=m:=wC
    have bN:b<wr.heap.size:=wC
    have aV:Bx<wr.heap.size:=wC
    clear b3 g bb b1 him bi
   all_goals
    gi_wp2;refine⟨wH,rfl,(zU.2 (q39 L _ _)).mono ?_⟩;rintro e w' ⟨rfl,rfl⟩;gi_wp2;refine qpe (fun Wr=>wG wr Wr/\Wr.heap.size=wr.heap.size+2/\Wr.heap[wr.heap.size+1]?=some (.cells (qal L (.slice aa L.atom.args.length ag)).toArray 64 (0,0))) ⟨kAl.trans kAl,wE,by simpa using qh (wr.alloc _) _⟩ ?_;rintro Wr ⟨kW,sW,bW⟩;have aA:=ao.o.keep aR.o aO aK kW (fun _ _=>wH) (fun _ _=>wH) trivial trivial trivial;refine qk2 (gf:=142) (lb:= #[.pointer (some ⟨wr.heap.size+1,0,none⟩)]) rfl (qdg Tryz.func142 wD rfl) (qxw n0 (wr.heap.size+1) w0 L _ ca.o cd) (fun _=>rfl) (fun _ h=>h.elim)
     ⟨bW,aA.v.2⟩ (fun X Y hv hK=>qo9 hv hK (fun k hk=>wC) wC)
     (fun k O X=> ∃u,StandsSt n0 Bx w0 rc J W.heap.size W.heap.size (W.heap.size+1) Bi (.func (.yield l) #[] #[]) (qal r.headLit (.slice ah r.head.args.length z)).toArray ((i:Int)-1) (r.off i+L.cnt k) u X/\(∀b,u b->b<Wr.heap.size∨O b)/\ ¬u (wr.heap.size+1)/\MarksAt Ds u X)
     (fun c k O X=>qto c/\ ∃j u,j<r.stands.length/\Jx j u X/\qgq n0 Bx w0 rc X/\(∀b,u b->b<Wr.heap.size∨O b)/\MarksAt Ds u X) ?hI ?hIx ?h0 ?round ?done ?stop
    case hI=>
     rintro k O X Y ⟨u,h1,h2,h3,h4⟩ hK;exact⟨u,h1.keep aR.o aO aK hK (fun b R=>.inl ⟨wC,fun h=>h⟩) (fun b R=>(h2 b R).elim (fun h=>.inl ⟨h,fun h=>h⟩) .inr) (.inl ⟨wC,fun h=>h⟩) (.inl ⟨wC,fun h=>h⟩) (.inl ⟨wC,fun h=>h⟩),h2,h3,
      h4.keep hK (fun D hD=>.inl ⟨by have:=ak.o D hD;omega,fun h=>h⟩) (fun _ _ h=>h)⟩
    case hIx=>
     rintro c k O X Y ⟨hc,j,u,hj,h1,h2,h3,h4⟩ hK;exact⟨hc,j,u,hj,bf.o _ _ _ _ h1 (hK.mono fun b _ R=>R.elim (fun h=>.inl ⟨by have:=h.1;omega,fun h=>h⟩) (fun h=>(h3 b h).elim (fun h=>.inl ⟨h,fun h=>h⟩) .inr)),qc0 h2 hK (fun k hk=>.inl ⟨wC,fun h=>h⟩) (.inl ⟨wC,fun h=>h⟩),h3,
      h4.keep hK (fun D hD=>.inl ⟨by have:=ak.o D hD;omega,fun h=>h⟩) (fun _ _ h=>h)⟩
    case h0=>
     refine⟨u,?_,fun b R=>.inl (by have:=ao.o.o b R;omega),fun h=>by have:=ao.o.o _ h;omega,x.o.keep kW (fun _ _=>wH) (fun _ _ h=>h)⟩;rw [q40];exact aA
    case round=>
     intro lr k O X dy dJ bQ hk hI hV dN;obtain⟨u,hI,am,aY,aC⟩:=hI;obtain⟨t,ht⟩: ∃t,L.terms[k]?=some t:=⟨_,zB hk⟩;have bw:L.terms.getD k default=t:=by simp [List.getD,ht]
     clear a9 b2 br e1 d0 d1 d2 d3 d4 d5 d6 aN aA kW
     try clear g0 g1 g2 g3 g4 g5 g6 bu bN aV
     simp only [bw,TermD.val];refine qdz ?_ ht hI am aY aC hV bQ bw hk bW;clear ht hI am aY aC hV bQ bw hk bW;intro bp ba ai aJ bk aZ cg dm dP dO;gi_wp2;refine⟨kAl,fun Y hY ck cN=>?_⟩;have aQ:Keep (fun b=>b≠lr) X Y:=(Keep.alloc _ X _).trans hY;have nt:=hY.heap (qh X (.cells #[.bool t.var,.string t.text] 60)) (show X.heap.size≠lr from wC);have ax:=ba.o.keep aR.o aO aK aQ (fun b R=>wC) (fun b R e=>(ai.o b R).elim (fun h=>wC) (fun h=>cg.o (e▸h))) wC wC wC;have bc:=bk.o.keep (O':=u) aQ (fun D hD=>by have:=ak.o D hD;omega) (fun _ _ h=>h);have a6:=qo9 aZ.o aQ (fun k hk=>wC) wC;have f1:=qbz ax.y;have f2:=qbz ax.i;have f3:=qb nt 0 _ rfl;have f4:=qb nt 1 _ rfl;simp only [zD,Nat.add_zero]at f3 f4;have di:Y.heap.size=X.heap.size+1:=by simpa using ck
     have an:=q41 bp.o;clear hY ck cN;by_cases hv:t.var=true
     ·have U:=q1r (c:=L.cnt k) bm.o (zA.1 (qx1 bp.o hv)).1;have hu:=(zA.1 (qx1 bp.o hv)).2;rw [hu]at U;have au:=(zA.1 U).1;have aU:r.stands.getD (r.off i+L.cnt k) default=((i:Int)-1,t.text):=by simp [List.getD,U]
      obtain⟨fn,tmps,assign,body,hy,hR⟩:=cQ.o (r.off i+L.cnt k) u Y au ax.j ax.v ax.s;rw [aU]at hy;simp only [hv,yj]at an;refine qhu ?_ hR ax bc a6 aQ an nt hu U au aU;clear hR ax bc a6 aQ an nt hu U au aU;intro cS b8 aT b6 dg bF dM dB aI ci c4;gi_wp2;refine⟨rfl,RoundIn.mono (F:=inR lr) cS.o ?_⟩;rintro e Z ⟨O',cl,aS,aw,aW,aE⟩;have dv:=aw.size;have al: ∀b,O' b->b<Y.heap.size->u b:=fun b R au=>(aS b R).elim id (fun h=>wC);have bG: ∀b,O' b->b<Wr.heap.size∨O b∨(X.heap.size<=b/\O' b):=fun b R=>(aS b R).elim (fun h=>(ai.o b h).imp id .inl) (fun h=>.inr (.inr ⟨wC,R⟩));have a7:Keep (fun b=>Wr.heap.size<=b/\b<X.heap.size/\ ¬O b) Y Z:=aw.mono (fun b _ h=>⟨wC,fun ho=>(ai.o b ho).elim (fun h'=>by have:=h.1;omega) h.2.2⟩);have a2:=aT.o.keep (O':=O') aw (fun D hD=>⟨d.o D hD,(aT.o D hD).1⟩) (fun D hD h ho=>h (al D ho (by have:=qe (aT.o D hD).2;omega)));have a3:qjg n0 (wr.heap.size+1) w0 (qal L (.slice aa L.atom.args.length ag)).toArray Z:=⟨aw.heap b6.o.1 ⟨wC,aJ.o⟩,aW.2⟩;have bx: ¬O' (wr.heap.size+1):=fun h=>aJ.o (al _ h wC);have p:=b8.o;have cX:=qe p.y;have c5:=qe p.h;have c8:=qe p.i;rcases aE with ⟨rfl,aE⟩ |⟨rfl,aE⟩
      ·have bH:StandsSt n0 Bx w0 rc J W.heap.size W.heap.size (W.heap.size+1) Bi (.func (.yield l) #[] #[]) (qal r.headLit (.slice ah r.head.args.length z)).toArray ((i:Int)-1) (r.off i+L.cnt (k+1)) O' Z:=
        {j:=by rw [bF.o];exact aE,v:=aW,s:=wC,o:=fun b R=>(aS b R).elim (fun h=>by have:=p.o b h;omega) (fun h=>h.2),y:=aw.heap p.y ⟨p.sy,p.ny⟩,h:=aw.heap p.h ⟨p.sh,p.nh⟩,i:=aw.heap p.i ⟨p.si,p.ni⟩,ny:=fun h=>p.ny (al _ h cX),nh:=fun h=>p.nh (al _ h c5),ni:=fun h=>p.ni (al _ h c8),sy:=p.sy,sh:=p.sh,si:=p.si}
       have ae:qey Wr.heap.size X.heap.size (qjg n0 (wr.heap.size+1) w0 (qal L (.slice aa L.atom.args.length ag)).toArray) O Y Z (fun aX=> ∃u,StandsSt n0 Bx w0 rc J W.heap.size W.heap.size (W.heap.size+1) Bi (.func (.yield l) #[] #[]) (qal r.headLit (.slice ah r.head.args.length z)).toArray ((i:Int)-1) (r.off i+L.cnt (k+1)) u Z/\(∀b,u b->b<Wr.heap.size∨aX b)/\ ¬u (wr.heap.size+1)/\MarksAt Ds u Z):=
        ⟨fun b=>O b∨(X.heap.size<=b/\O' b),fun b h=>.inl h,fun b h=>h.imp id (fun h=>⟨h.1,bH.o b h.2⟩),a7,a3,O',bH,bG,bx,a2⟩
       clear bH a2 a3 bx a7 bG al aE p aw aW cl aS;refine hd1 ?_ ae;clear ae;intro aj;gi_wp2;exact aj.o
      ·have ae:qey Wr.heap.size X.heap.size (qjg n0 (wr.heap.size+1) w0 (qal L (.slice aa L.atom.args.length ag)).toArray) O Y Z (fun aX=>qto .ret/\ ∃j u,j<r.stands.length/\Jx j u Z/\qgq n0 Bx w0 rc Z/\(∀b,u b->b<Wr.heap.size∨aX b)/\MarksAt Ds u Z):=
        ⟨fun b=>O b∨(X.heap.size<=b/\b<Z.heap.size/\O' b),fun b h=>.inl h,fun b h=>h.imp id (fun h=>⟨h.1,h.2.1⟩),a7,a3,rfl,_,O',ci.o,aE,aW,fun b R=>(aS b R).elim (fun h=>(ai.o b h).imp id .inl) (fun h=>.inr (.inr ⟨wC,h.2,R⟩)),a2⟩
       clear a2 a3 bx a7 bG al aE p aw aW cl aS;refine hd1 ?_ ae;clear ae;intro aj;gi_wp2;exact aj.o
     ·have cO:t.var=false:=by simpa using hv
      simp only [cO,xA,Nat.add_zero,zz]at an;have ae:qey Wr.heap.size X.heap.size (qjg n0 (wr.heap.size+1) w0 (qal L (.slice aa L.atom.args.length ag)).toArray) O Y Y (fun aX=> ∃u,StandsSt n0 Bx w0 rc J W.heap.size W.heap.size (W.heap.size+1) Bi (.func (.yield l) #[] #[]) (qal r.headLit (.slice ah r.head.args.length z)).toArray ((i:Int)-1) (r.off i+L.cnt (k+1)) u Y/\(∀b,u b->b<Wr.heap.size∨aX b)/\ ¬u (wr.heap.size+1)/\MarksAt Ds u Y):=
       ⟨O,fun b h=>h,fun b h=>.inl h,Keep.refl _ _,a6,u,by rw [an];exact ax,ai.o,aJ.o,bc⟩
      clear hv ax bc a6 aQ an nt;refine hd1 ?_ ae;clear ae;intro aj;gi_wp2;refine⟨fun _ h=>(by cases h),?_⟩;gi_wp2;exact aj.o
    case done=>
     rintro D O Wd hD bz aG cR ⟨u,hI,am,aY,aC⟩ hV;have f2:=qbz hI.i;have dD:=qe hI.i;have dp:=hI.si;rw [q66,←bv.o]at hI;have ar:MarksAt (D::Ds) u Wd:=fun E hE=>by
      rcases zw.1 hE with rfl |hE
      ·exact⟨fun h=>(am _ h).elim (fun h=>wC) bz,aG⟩
      ·exact aC E hE
     have aB:(D::Ds).Nodup:=xU.2 ⟨fun h=>by have:=ak.o D h;omega,ad.o⟩;have az: ∀E,E∈D::Ds->W.heap.size<=E:=fun E hE=>by
      rcases zw.1 hE with rfl |hE
      ·omega
      ·exact d.o E hE
     have bo:=(zA.1 bm.o).1;clear a9 b2 br e1 d0 d1 d2 d3 d4 d5 d6 aN aA kW ad d x
     try clear g0 g1 g2 g3 g4 g5 g6 bu bN aV
     refine qdz ?_ hI am aY aC hV aG ar aB az bo;clear hI am aY aC hV aG ar aB az bo;intro ba ai aJ bk aZ ce x ad d aF;have cC:(i:Int)<=1099511627776:=by have:=aF.o;simp [RuleD.lits] at this;omega
     have dq:(0:Int)<=i:=wC
     gi_wp2;refine⟨⟨_,_,_,_,_,_,_,_,_,_,_,_,_,_,_,_,_,_,_,_,_,_,_,_,_,_,_,_,_,_,_,_,_,_,_,_,_,_,_,_,⟨i+1,u,Wd.heap.size,D::Ds,by have:=aF.o;omega,rfl,rfl,rfl,rfl,?_,rfl,ad.o,d.o,x.o.keep kAl (fun _ _=>wH) (fun _ _ h=>h)⟩,rfl⟩,?_⟩
     ·have c6:=ba.o.keep (C:=fun _=>True) aR.o aO aK (Keep.alloc _ Wd (.cells #[.int .i64 (i:Int)] 3)) (fun _ _=>wH) (fun _ _=>wH) trivial trivial trivial;have hn:=qh Wd (.cells #[.int .i64 (i:Int)] 3);have he:((i+1:Nat):Int)-1=i:=by omega
      exact {c6 with i:=by rw [he];exact hn,ni:=fun h=>by have:=ba.o.o _ h;omega,si:=by omega}
     ·have h1:=qsc (w:=wr) (q:=⟨Bi,0,none⟩) (qbz ao.o.i);have h2:=qsc (w:=Wd.alloc (.cells #[.int .i64 (i:Int)] 3)) (q:=⟨Wd.heap.size,0,none⟩) (qbz (qh Wd _));have:=aF.o;simp [RuleD.lits]at this;simp only [Array.getD_eq_getD_getElem?,getElem?_toArray,getElem?_cons_succ,getElem?_cons_zero,Option.getD_some,h1,h2];omega
    case stop=>
     rintro D c k O Wd hD bz aG cR hk ⟨cb,j,u,hj,bS,cj,am,aC⟩ hV;obtain rfl:c=.ret:=cb;have ar:MarksAt (D::Ds) u Wd:=fun E hE=>by
      rcases zw.1 hE with rfl |hE
      ·exact⟨fun h=>(am _ h).elim (fun h=>wC) bz,aG⟩
      ·exact aC E hE
     have aB:(D::Ds).Nodup:=xU.2 ⟨fun h=>by have:=ak.o D h;omega,ad.o⟩;have az: ∀E,E∈D::Ds->W.heap.size<=E:=fun E hE=>by
      rcases zw.1 hE with rfl |hE
      ·omega
      ·exact d.o E hE
     clear a9 b2 br e1 d0 d1 d2 d3 d4 d5 d6 aN aA kW ad d x
     try clear g0 g1 g2 g3 g4 g5 g6 bu bN aV
     refine hd8 ?_ bS am hV cj aG ar aB az;clear bS am hV cj aG ar aB az;intro cc ai aZ b0 ce x ad d;gi_wp2;refine qg0 (D::Ds) _ ad.o (fun E hE=>(x.o E hE).2) (fun w' hK hs=>qb9 (yw rfl _ _ _) ?_);exact⟨⟨_,rfl⟩,wC,qc0 b0.o hK (fun b R h=>by have:=d.o b h;omega) (fun h=>by have:=d.o _ h;omega),u,.inr ⟨j,hj,bf.o _ _ _ _ cc.o (hK.mono fun b _ R=>R.elim (fun h h'=>by have:=d.o b h';omega) (fun h h'=>(x.o b h').1 h))⟩⟩
  ·have cF:i=r.lits.length:=by omega
   subst cF;have U:=af;rw [q65]at U;have dA: ¬(((r.lits.length:Nat):Int)-1<r.body.length):=by simp [RuleD.lits]
   have cC:(r.lits.length:Int)<=1099511627777:=by simp [RuleD.lits];omega
   clear au hi;refine hd3 ?_ af U b3;clear af U b3;intro ao aI dK;gi_wp2;refine qg0 Ds _ ad.o (fun E hE=>(x.o E hE).2) (fun w' hK hs=>qb9 (yw rfl _ _ _) ?_);exact⟨⟨_,rfl⟩,wC,qc0 aI.o.v hK (fun b R h=>by have:=d.o b h;omega) (fun h=>by have:=d.o _ h;omega),u,.inl (aR.o _ _ _ _ aI.o.j (hK.mono fun b _ R=>R.elim (fun h h'=>by have:=d.o b h';omega) (fun h h'=>(x.o b h').1 h)))⟩
theorem qrs:qcj prog 46 9 1 16:=qc2 (z:=.string ⟨#[]⟩) wD wD rfl wF wF
theorem qrj (r:RuleD)(b:Option Addr)(nh h:Nat)(c:Option Addr)(g d:Nat)(w:World):Calls prog 80 #[.agg #[.string r.head.pred,.slice b nh h,.slice c g d]] w fun e w'=>
  e=.returned (.func (.func 114) #[] #[.pointer (some ⟨w.heap.size,0,none⟩)])/\w'=w.alloc (.cells (qcz r (.slice b nh h) (.slice c g d)).toArray 27):=by
 go_enter Tryz.func80,Tryz.ntmps80
 go_wp2;go_ret;exact⟨rfl,rfl⟩
structure CollectSt (B n1 Bo Bm M:Nat)(w:World)(O:Nat->Prop)(ss:List ByteArray)(W:World):Prop where
 own: ∃v,W.heap[Bo]?=some (.cells #[v] 46 (0,0))/\W.ownsRow n1 9 1 v ss.length (ss.map .string)/\ ∀b,v.ownBlock=some b->O b/\B<=b
 mbox:W.heap[Bm]?=some (.cells #[.map (some M)] 144 (0,0))
 set:SetIn W M ss
 old:Keep (fun k=>k<n1) w W
theorem CollectSt.keep {B n1 c Bm M:Nat}{w:World}{O:Nat->Prop}{ss:List ByteArray}{W e:World}{C:Nat->Prop}(h:CollectSt B n1 c Bm M w O ss W)(hK:Keep C W e)
  (ho:C c) (u:C Bm) (t:C M) (s: ∀b,O b->C b) (m: ∀b,b<n1->C b):CollectSt B n1 c Bm M w O ss e:=by
 obtain⟨⟨v,p,q,g⟩,l,r,x⟩:=h;exact⟨⟨v,hK.heap p ho,qf q hK (fun b d=>s b (g b d).1),g⟩,hK.heap l u,r.keep hK t,x.trans (hK.mono fun b _ d=>m b d)⟩
theorem q6g (r:RuleD)(sh sb:Value)(w:World)(hr:RuleIn w.heap.size w sh sb r)(hN:r.stands.length<=1073741824):
  Calls prog 113 #[.agg #[.string r.head.pred,sh,sb]] w fun e w'=>
   ∃v,e=.returned v/\Keep (fun k=>k<w.heap.size) w w'/\w'.ownsRow w.heap.size 9 1 v (qbf r.names).length ((qbf r.names).map .string):=by
 refine qgb Tryz.func113 rfl ?_;simp only [Tryz.ntmps113,qd0,Nat.reduceAdd,Nat.reduceSub];obtain⟨⟨ah,U,rfl,bi,bb,al⟩,⟨ab,aa,rfl,bf,a7,am⟩⟩:=id hr;have aM:= @run_makeMap prog;refine hd3 ?_ hr al am;clear hr al am;intro bh bc bm;gi_wp2;refine⟨wH,rfl,(zU.2 (qrj r _ _ _ _ _ _ _)).mono ?_⟩;rintro e w' ⟨rfl,rfl⟩;gi_wp2;refine qpe (fun q=>wG w q/\q.heap.size=w.heap.size+1+1+1+1+1/\q.heap[w.heap.size+1]?=some (.cells #[.slice none 0 0] 46 (0,0))/\q.heap[w.heap.size+1+1]?=some (.map #[] 0)/\
   q.heap[w.heap.size+1+1+1]?=some (.cells #[.map (some (w.heap.size+1+1))] 144 (0,0))/\q.heap[w.heap.size+1+1+1+1]?=some (.cells (qcz r (.slice ah r.head.args.length U) (.slice ab r.body.length aa)).toArray 27 (0,0)))
  ⟨(((kAl.trans kAl).trans kAl).trans kAl).trans kAl,wE,by simp only [qao,zO];simp,by simp only [qao,zO];simp,by simp only [qao,zO];simp,by simp only [qao,zO];simp⟩ ?_
 rintro q ⟨kW,sW,h1,h2,h3,h4⟩;have y:=bh.o;refine qk2 (gf:=114) (lb:= #[.pointer (some ⟨w.heap.size+1+1+1+1,0,none⟩)]) rfl (qdg Tryz.func114 wD rfl)
  (qn7 w.heap.size (w.heap.size+1+1+1+1) q r _ _ (qak y.1 kW.mt) (qi7 y.2 kW.mt) wC wC) (fun _=>rfl) (fun _ h=>h.elim)
  ⟨h4,Keep.refl _ _⟩ (fun X Y hv hK=>qc0 hv hK (fun k hk=>wC) wC)
  (fun k O X=>CollectSt q.heap.size w.heap.size (w.heap.size+1) (w.heap.size+1+1+1) (w.heap.size+1+1) w O (qbf (r.names.take k)) X)
  (fun c k O X=>False) ?hI ?hIx ?h0 ?round ?done ?stop
 case hI=>
  intro k O X Y h hK;exact h.keep hK (.inl ⟨wC,fun h=>h⟩) (.inl ⟨wC,fun h=>h⟩) (.inl ⟨wC,fun h=>h⟩) (fun b g=>.inr g) (fun b g=>.inl ⟨wC,fun h=>h⟩)
 case hIx=>intro c k O X Y h;exact h.elim
 case h0=>exact⟨⟨_,h1,zj _ _ _ _,fun b g=>by simp [Value.ownBlock] at g⟩,h3,⟨#[],0,h2,rfl⟩,kW.mt⟩
 case round=>
  intro lr k O X bw bD aB hk hI hV bI;obtain⟨s,hs⟩:=ex ((r.stands.getD k default).2);have aJ:r.names[k]?=some s:=by simp [RuleD.names,←hs,List.getD,zB hk]
  rw [hs];clear h1 h2 h3 h4 kW aM;refine hd7 ?_ hI hs aJ hV hk aB y;clear hI hs aJ hV hk aB y;intro ba bs aA aT bK aG aC;gi_wp2;refine⟨Keep.refl _ _,fun Y hY av aP=>?_⟩;have aj:=ba.o.keep hY wC wC wC (fun b g e=>aG.o (e▸g)) (fun b g=>wC);have ak:=qc0 aT.o hY (fun b g=>wC) wC;obtain⟨⟨v,c1,c2,c3⟩,c4,c5,c6⟩:=id aj;have d1:=qbz c1;have a0:=qg c1 0;have d2:=qbz c4;have aN:=qiw (P:=prog) (T:=144) (K:=9) (E:=4) Tryz.underlying144 Tryz.underlying9 (fun _=>wD) c5 s;have z:qbf (r.names.take (k+1))=if s∈qbf (r.names.take k) then qbf (r.names.take k) else qbf (r.names.take k)++ [s]:=by
   rw [←qib,zh,aA.o];rfl
  have x: ∀(O':Nat->Prop) (Z:World),(∀b,O b->O' b)->(∀b,O' b->O b∨(X.heap.size<=b/\b<Z.heap.size))->Keep (fun b=>q.heap.size<=b/\b<X.heap.size/\ ¬O b) Y Z->qgq w.heap.size (w.heap.size+1+1+1+1) q (qcz r (.slice ah r.head.args.length U) (.slice ab r.body.length aa)).toArray Z->
    CollectSt q.heap.size w.heap.size (w.heap.size+1) (w.heap.size+1+1+1) (w.heap.size+1+1) w O' (qbf (r.names.take (k+1))) Z->
    qey q.heap.size X.heap.size (qgq w.heap.size (w.heap.size+1+1+1+1) q (qcz r (.slice ah r.head.args.length U) (.slice ab r.body.length aa)).toArray) O Y Z (fun O'=>CollectSt q.heap.size w.heap.size (w.heap.size+1) (w.heap.size+1+1+1) (w.heap.size+1+1) w O' (qbf (r.names.take (k+1))) Z):=fun O' Z a b c d e=>⟨O',a,b,c,d,e⟩
  by_cases m:s∈qbf (r.names.take k)
  ·have l:decide (s∈qbf (r.names.take k))=true:=by simpa using m
   rw [l]at aN;rw [zI m]at z;have hf:=x O Y (fun _ h=>h) (fun _ h=>.inl h) (Keep.refl _ _) ak (by rw [z];exact aj);clear x aj ak c1 c2 c3 c4 c5 c6 z m l hY av aP d1 a0;refine hd1 ?_ hf;clear hf;intro an;gi_wp2;exact an.o
  ·have l:decide (s∈qbf (r.names.take k))=false:=by simpa using m
   rw [l]at aN;rw [zF m]at z;obtain⟨W1,bz,ap,ae,aZ⟩:=qix (P:=prog) (T:=144) (K:=9) (E:=4) Tryz.underlying144 Tryz.underlying9 c5 s;rw [zF m]at ap;have e1:=ae.heap c1 wC;have bq:Y.heap.size=X.heap.size:=av;have e2:W1.ownsRow w.heap.size 9 1 v (qbf (r.names.take k)).length ((qbf (r.names.take k)).map .string):=qf c2 ae (fun b g=>by have:=(c3 b g).2;omega);have d3:=qbz e1;have bu:=qg e1 0;have a5:(qbf (r.names.take k)).length<=1073741824:=by have:=qm7 (r.names.take k);have:r.names.length=r.stands.length:=(by simp [RuleD.names]);simp at*;omega
   have bt:=c6.size;obtain⟨v2,W2,aO,aK,af,g2,R,a9,ar,bx⟩:=qc8 qrs 46 e2 [.string s] rfl (by simp [Value.oneCell']) wC wC;subst a9;have t: ∀b,b<q.heap.size->some b≠v.ownBlock:=fun b g e=>by have:=(c3 b e.symm).2;omega
   have ai:=af.heap e1 (t _ wC);have e4:=qbz ai;have bv:=qg ai 0;have a8:(W2.setCell ⟨w.heap.size+1,0,none⟩ (.slice (some ⟨g2,0,none⟩) ((qbf (r.names.take k)).length+1) R)).heap.size=W2.heap.size:=by simp [World.setCell]
   have aL:O g2∨X.heap.size<=g2:=ar.imp (fun h=>(c3 _ h).1) (fun h=>wC);have bJ:q.heap.size<=g2:=ar.elim (fun h=>(c3 _ h).2) (fun h=>wC);have k3: ∀u,Keep (fun b=>b≠w.heap.size+1) W2 (W2.setCell ⟨w.heap.size+1,0,none⟩ u):=fun u=>kSc;have p:Keep (fun b=>b≠w.heap.size+1/\b≠w.heap.size+1+1/\some b≠v.ownBlock) Y (W2.setCell ⟨w.heap.size+1,0,none⟩ (.slice (some ⟨g2,0,none⟩) ((qbf (r.names.take k)).length+1) R)):=
    ((ae.mono fun b _ h=>h.2.1).trans (af.mono fun b _ h=>h.2.2)).trans ((k3 _).mono fun b _ h=>h.1)
   have hf:=x (fun b=>O b∨b=g2) (W2.setCell ⟨w.heap.size+1,0,none⟩ (.slice (some ⟨g2,0,none⟩) ((qbf (r.names.take k)).length+1) R)) (fun _ h=>.inl h)
    (fun b h=>h.elim .inl (fun e=>by subst e;exact aL.imp id (fun h=>⟨h,wC⟩)))
    (p.mono fun b _ h=>⟨wC,wC,fun e=>h.2.2 (c3 b e.symm).1⟩)
    (qc0 ak p (fun b g=>⟨wC,wC,t b wC⟩) ⟨wC,wC,t _ wC⟩)
    (by
     rw [z];refine⟨⟨_,qgn _ ai,?_,fun b g=>?_⟩,p.heap c4 ⟨wC,wC,t _ wC⟩,(ap.keep af (t _ wC)).keep (k3 _) wC,c6.trans (p.mono fun b _ g=>⟨wC,wC,t b wC⟩)⟩
     ·simp only [zR,length_cons,length_nil,zn,yZ,xk,zF m];exact qf aK (k3 _) (fun b g=>by simp [Value.ownBlock] at g;omega)
     ·simp only [Value.ownBlock,yd]at g;exact⟨.inr g.symm,wC⟩)
   clear x aj ak c1 c2 c3 c4 c5 c6 z m l hY av aP ap ae aZ e2 aK af ar e1 ai p k3 t aL a8;refine hd2 ?_ aO hf;clear aO hf;intro aH an
   gi_wp2_with (gi_at_builtin;refine qck rfl _ _ _ rfl rfl rfl aH.o ?_)
   exact an.o
 case done=>
  rintro D O W hD aR aS bH hI hV;have aD:r.names.take r.stands.length=r.names:=yz (by simp [RuleD.names]);rw [aD]at hI;obtain⟨⟨v,c1,c2,c3⟩,c4,c5,c6⟩:=hI;have d1:=qbz c1;clear h1 h2 h3 h4 kW aM;refine qdz ?_ c1 c2 c3 c4 c5 c6 hV aR aS y;clear c1 c2 c3 c4 c5 c6 hV aR aS y;intro bG bl a3 br bL a6 aT az aE aC;gi_wp2;refine qhm aE.o (qb9 (xo rfl _ _ _) ⟨v,rfl,?_,?_⟩)
  ·exact a6.o.trans (Keep.putObj _ _ _ wC)
  ·exact qf bl.o (Keep.putObj (C:=fun b=>b≠D) _ _ _ wE) (fun b g e=>az.o (e▸(a3.o b g).1))
 case stop=>intro D c k O W _ _ _ _ _ h;exact h.elim
theorem qpy (n:Int)(w:World):(Instr.makeMap 144 (some (.int .i64 n))).run prog w=.ok (.map (some w.heap.size)) (w.alloc (.map #[] 0)):=by
 simp [Instr.makeMap,yt,yo Tryz.underlying144,Result.andThen,asInt,asIntOf,run_newObj_alloc]
theorem q78 (n0:Nat)(v:Value)(ss:List ByteArray)(w:World)(U:qac n0 w v ss)(hn:n0<=w.heap.size):
  Calls prog 78 #[v] w fun e w'=>e=.returned (.map (some w.heap.size))/\Keep (fun k=>k<w.heap.size) w w'/\SetIn w' w.heap.size (qbf ss):=by
 obtain⟨a,cap,rfl,aa,Y,t⟩:=id U;have l:=fun w=>qpy ss.length w;refine hd2 ?_ U t;clear U t;intro af r
 go_enter Tryz.func78,Tryz.ntmps78
 go_wp2
 go_loopw [11] (fun i wr=> ∃k:Nat,k<=ss.length/\i=.int .i64 k/\Keep (fun j=>j<w.heap.size) w wr/\SetIn wr w.heap.size (qbf (ss.take k))) (fun i _=>ss.length-(intOf i).toNat)
 case atStart=>exact⟨0,wC,rfl,kAl,qm9 w⟩
 case round=>
  obtain⟨k,hk,rfl,hK,g⟩:=hrel;by_cases R:k<ss.length
  ·obtain⟨s,c⟩: ∃s,ss[k]?=some s:=⟨_,zB R⟩;obtain⟨b,off,rfl,hb,he⟩:=r.o k s c;have hc:=hK.cell he (show b<w.heap.size from wC);simp only [yB]at hc;obtain⟨W1,ad,d,u,z⟩:=qix (P:=prog) (T:=144) (K:=9) (E:=4) Tryz.underlying144 Tryz.underlying9 g s;rw [←qib,show ss.take k++ [s]=ss.take (k+1) from by rw [zh,c];rfl]at d;have q:Keep (fun j=>j<w.heap.size) w W1:=hK.trans (u.mono fun b _ h=>wC);clear he l u z;refine hd5 ?_ hK g d q c;clear hK g d q c;intro m x p y X;go_wp2;go_roundw
   case rel=>exact⟨k+1,wC,by go_num,y.o,p.o⟩
   case measure=>simp [intOf];omega
  ·obtain rfl:k=ss.length:=by omega
   rw [zi]at g;clear l;refine hd2 ?_ hK g;clear hK g;intro m x;go_wp2;go_ret;exact⟨rfl,m.o,x.o⟩
theorem qlj:qcj prog 25 64 7 96:=qc2 (z:=.agg #[.int .i64 0,.string ⟨#[]⟩,.slice none 0 0,.bool false,.string ⟨#[]⟩,.bool false,.string ⟨#[]⟩]) wD wD rfl wF wF
theorem qxx (l:List LitD)(k:Nat)(L:LitD)(h:l[k]?=some L):(l.take (k+1)).filter (fun L=>L.kind==1)=(l.take k).filter (fun L=>L.kind==1)++if L.kind==1 then [L] else []:=by
 rw [zh,h];simp [yg]
theorem q4a (n0:Nat)(v:Value)(body:List LitD)(w:World)(hs:qgh n0 w v body)(hn:n0<=w.heap.size)(hN:(body.flatMap LitD.uses).length<=1073741824):
  Calls prog 79 #[v] w fun e w'=> ∃v',e=.returned v'/\Keep (fun k=>k<w.heap.size) w w'/\w'.ownsRow w.heap.size 9 1 v' (qcm body).length ((qcm body).map .string):=by
 obtain⟨a,cap,rfl,aS,aR,aC⟩:=id hs;refine hd2 ?_ hs aC;clear hs aC;intro aY aF;refine qbr Tryz.func79 rfl ?_;simp only [Tryz.ntmps79,qd0,Nat.reduceAdd,Nat.reduceSub];gi_wp2;gi_loopw [3,8] (fun v3 i wr=> ∃(k:Nat) (ps:List (LitD×Value)),k<=body.length/\i=.int .i64 k/\Keep (fun j=>j<w.heap.size) w wr/\wr.ownsRow w.heap.size 64 7 v3 ps.length (ps.flatMap fun p=>qal p.1 p.2)/\
   ps.map (·.1)=(body.take k).filter (fun L=>L.kind==1)/\ps.length<=k/\ ∀p,p∈ps->qai n0 w p.2 p.1.atom.args) (fun _ i _=>body.length-(intOf i).toNat)
 case atStart=>exact⟨0,[],wC,rfl,Keep.refl _ _,zj _ _ _ _,rfl,wE,wE⟩
 case round=>
  obtain⟨k,ps,hk,rfl,hK,hO,d,a1,q⟩:=hrel;have aN:=hK.size;by_cases aP:k<body.length
  ·obtain⟨L,hL⟩: ∃L,body[k]?=some L:=⟨_,zB aP⟩;obtain⟨b,off,rfl,hb,sa,al,x⟩:=aF.o k L hL;have g: ∀j v,(qal L sa)[j]?=some v->wr.cell? ⟨b,off+k*7+j,none⟩=some v:=fun j v h=>hK.cell (al j v h) (show b<w.heap.size from wC);have m:=qxx body k L hL;obtain⟨U,c,rfl,aO,aK,ad⟩:=id x;have d0:=g 0 _ rfl;have d1:=g 1 _ rfl;have d2:=g 2 _ rfl;have d3:=g 3 _ rfl;have d4:=g 4 _ rfl;have d5:=g 5 _ rfl;have d6:=g 6 _ rfl;simp only [Nat.add_zero]at d0;by_cases y:L.kind=1
   ·have af:(L.kind==1)=true:=by simp [y]
    rw [af,zI rfl,←d]at m;have r:=qf hO (Keep.alloc (fun _=>True) wr (.cells (qal L (.slice U L.atom.args.length c)).toArray 64)) (fun _ _=>wH);obtain⟨v2,W2,ag,an,av,g2,aA,aJ,aM,a0⟩:=qc8 qlj 25 r (qal L (.slice U L.atom.args.length c)) rfl (by simp [qal,Value.oneCell']) wC (by simp;omega);subst aJ;have s:Keep (fun j=>j<w.heap.size) w W2:=(hK.trans kAl).trans (av.mono fun b hb h e=>by have:=(zE r b e.symm).1;omega);have X: ∀p,p∈ps++ [(L,.slice U L.atom.args.length c)]->qai n0 w p.2 p.1.atom.args:=fun p hp=>by
     rcases zr.1 hp with h |h
     ·exact q p h
     ·simp only [zm]at h;subst h;exact x
    have aD:W2.ownsRow w.heap.size 64 7 (.slice (some ⟨g2,0,none⟩) (ps.length+1) aA) (ps++ [(L,Value.slice U L.atom.args.length c)]).length ((ps++ [(L,Value.slice U L.atom.args.length c)]).flatMap fun p=>qal p.1 p.2):=by
     simpa using an
    have Y:(ps++ [(L,Value.slice U L.atom.args.length c)]).map (·.1)=(body.take (k+1)).filter (fun L=>L.kind==1):=by rw [m];simp
    simp only [zO,qal]at ag;clear g al ad hO r an av q d hL m aM y x;refine hd6 ?_ hK ag s X aD Y;clear hK ag s X aD Y;intro aj aG t ah aq am
    gi_wp2_with (gi_at_builtin;refine qck rfl _ _ _ rfl rfl rfl aG.o ?_)
    go_roundw
    case rel=>exact⟨k+1,ps++ [(L,.slice U L.atom.args.length c)],wC,by go_num,t.o,aq.o,am.o,by simp;omega,ah.o⟩
    case measure=>simp [intOf];omega
   ·have af:(L.kind==1)=false:=by simp [y]
    rw [af,zF wE,←d,yQ]at m;have s:Keep (fun j=>j<w.heap.size) w (wr.alloc (.cells (qal L (.slice U L.atom.args.length c)).toArray 64)):=hK.trans kAl;have r:=qf hO (Keep.alloc (fun _=>True) wr (.cells (qal L (.slice U L.atom.args.length c)).toArray 64)) (fun _ _=>wH);clear g al ad hO d hL y x;refine hd5 ?_ hK s q r m;clear hK s q r m;intro aj t ay az ao;gi_wp2;go_roundw
    case rel=>exact⟨k+1,ps,wC,by go_num,t.o,az.o,ao.o.symm,wC,ay.o⟩
    case measure=>simp [intOf];omega
  ·obtain rfl:k=body.length:=by omega
   rw [zi]at d;have R:=qug (n0:=n0) hO wC wC (fun p hp=>qak (q p hp) (hK.mono fun b _ h=>wC));rw [d]at R;obtain⟨a3,ar,rfl,aX,aW,aL⟩:=id R;have u:RuleIn wr.heap.size wr (.slice none 0 0) (.slice a3 (body.filter fun L=>L.kind==1).length ar) ⟨⟨⟨#[]⟩,[]⟩,body.filter fun L=>L.kind==1⟩:=⟨⟨none,0,rfl,wE,by simp [maxLen],wE⟩,R⟩;have ae:RuleD.names ⟨⟨⟨#[]⟩,[]⟩,body.filter fun L=>L.kind==1⟩=(body.filter fun L=>L.kind==1).flatMap LitD.uses:=by rw [qj0];simp [RuleD.headLit,LitD.uses,LitD.terms]
   have ab: ∀l:List LitD,((l.filter fun L=>L.kind==1).flatMap LitD.uses).length<=(l.flatMap LitD.uses).length:=by
    intro l
    induction l with
    |nil=>simp
    |cons L l ih=>
     by_cases h:(L.kind==1)=true
     ·simp only [yg,h,yj,yF,zR];omega
     ·simp only [yg,h,xA,yF,zR,zz];omega
   have aw:(RuleD.stands ⟨⟨⟨#[]⟩,[]⟩,body.filter fun L=>L.kind==1⟩).length<=1073741824:=by
    have:=yO List.length ae;simp only [RuleD.names,zL]at this;have:=ab body;omega
   clear q d R ab aL;refine hd5 ?_ hK hO u ae aw;clear hK hO u ae aw;intro aj a5 z ap au;gi_wp2;refine⟨wH,rfl,(zU.2 (q6g _ _ _ _ z.o au.o)).mono ?_⟩;rintro e w' ⟨v',rfl,aB,ai⟩;rw [ap.o]at ai;refine hd2 ?_ aB ai;clear aB ai;intro ax aE;gi_wp2;go_ret;exact⟨_,rfl,aj.o.trans (ax.o.mono fun b _ h=>wC),aE.o.mono aN⟩
end Go.Proofs.S12
