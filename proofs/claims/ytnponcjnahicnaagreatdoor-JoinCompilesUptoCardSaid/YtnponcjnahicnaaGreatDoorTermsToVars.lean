/- Parts of the proof. -/
import Derived.Test.YtnponcjnahicnaaGreatDoorProg
import Derived.Test.YtnponcjnahicnaaGreatDoorDataToHoist
set_option linter.unusedSimpArgs false
set_option linter.unusedVariables false
set_option maxRecDepth 100000
set_option maxHeartbeats 2000000
open Go.Proofs.Tryz(prog)
open List(append_toArray cons_append getD_cons_succ getD_cons_zero getElem?_cons_succ getElem?_cons_zero getElem?_toArray length_cons length_nil nil_append nodup_nil push_toArray size_toArray)
namespace Go.Proofs.S12
open Go.RowKit Go.Ink
attribute [local go_sem] Oper.semAt_some
def qim (n0 Bx:Nat)(w0:World)(cs:Array Value)(W:World):Prop:=W.heap[Bx]?=some (.cells cs 79 (0,0))/\Keep (fun k=>k<n0) w0 W
theorem qve (n0 Bx:Nat)(w0:World)(L:LitD)(sa:Value)(R:qad n0 w0 sa L.atom.args)(aV:n0<=w0.heap.size):
  qwl prog 204 #[.pointer (some ⟨Bx,0,none⟩)] (fun k=> #[(L.terms.getD k default).val]) L.terms.length (qim n0 Bx w0 (qu L sa).toArray) (fun _=>False):=by
 intro l J Jx O0 W hl ag hV hJ af hY h0;refine qbl Tryz.func204 rfl ?_;simp only [Tryz.ntmps204,size_toArray,length_cons,length_nil,Nat.reduceAdd,Nat.reduceSub,Array.replicate_succ,Array.replicate_zero,push_toArray,append_toArray,nil_append,cons_append];obtain⟨a,cap,rfl,aK,aJ,ai⟩:=id R;obtain⟨hB,hK⟩:=id hV;have s:=qb hB;have c0:=s 0 _ rfl;have c1:=s 1 _ rfl;have c2:=s 2 _ rfl;simp only [zD,Nat.add_zero]at c0 c1 c2;have HJ:=zg hJ;have aP:=zg af;have HY:=zg hY;have HV:=zg hV;have HB:=zg hB;have HK:=zg hK;have HO:=zg ag;have HE:=zg ai;have HS:=zg R;clear hJ af hY hV hB hK ag s ai R;by_cases p:L.kind=1∨L.kind=2
 ·have g:L.terms=L.atom.args:=by simp [LitD.terms,p]
  have ak:((L.kind==1)=true)∨((L.kind==1)=false/\(L.kind==2)=true):=by rcases p with h |h<;>simp [h]
  have u:=zg g;clear p g;rcases ak with aj |⟨aj,aw⟩
  all_goals
   gi_wp2;gi_loopw [14] (fun i wr=> ∃(k:Nat) (O:Nat->Prop),k<=L.atom.args.length/\i=.int .i64 k/\J k O wr/\qim n0 Bx w0 (qu L (.slice a L.atom.args.length cap)).toArray wr/\W.heap.size<=wr.heap.size) (fun i _=>L.atom.args.length-(intOf i).toNat)
   case atStart=>exact⟨0,O0,xz,rfl,h0,HV.out,xz⟩
   case round=>
    obtain⟨k,O,hk,rfl,ae,ah,ay⟩:=hrel;have ad:=zg ae;have v:=zg ah;clear ae ah h0 c0 c1 c2;by_cases y:k<L.atom.args.length
    ·obtain⟨t,g⟩: ∃t,L.atom.args[k]?=some t:=⟨_,zB y⟩;have al:L.terms.getD k default=t:=by rw [u.out];simp [List.getD,g]
     obtain⟨b,off,rfl,hb,e1,e2⟩:=HE.out k t g;have d1:=v.out.2.cell e1 hb;have d2:=v.out.2.cell e2 hb;obtain⟨fn,tmps,assign,body,hy,x⟩:=HY.out k O (wr.alloc (.cells #[.bool t.var,.string t.text] 77)) (by rw [u.out];exact y)
      (HJ.out _ _ _ _ ad.out kAl) ⟨(Keep.alloc (fun _=>True) _ _).heap v.out.1 wE,v.out.2.trans kAl⟩ (by simp;omega)
     simp only [al,TermD.val]at hy;have U:=zg x;clear e1 e2 g al x;gi_wp2;refine⟨rfl,U.out.mono ?_⟩;rintro e Y ⟨O',q,r,d,f,(⟨rfl,c⟩ |⟨rfl,c⟩)⟩
     all_goals
      have ap:=zg d;have m:=zg f;have j:=zg c;have z:=d.size;simp at z;clear d f c q r U hy;gi_wp2
     ·go_roundw
      case rel=>exact⟨k+1,O',xz,by go_num,j.out,m.out,xz⟩
      case measure=>simp [intOf];omega
     ·refine zz (yr rfl _ _ _) rfl ?_;exact⟨⟨_,rfl⟩,xz,m.out,O',.inr ⟨k,by rw [u.out];exact y,j.out⟩⟩
    ·gi_wp2
     go_end0
     obtain rfl:k=L.atom.args.length:=xz
     exact⟨⟨_,rfl⟩,ay,v.out,O,.inl (by rw [u.out];exact ad.out)⟩
 ·have aj:(L.kind==1)=false:=by simp;omega
  have aw:(L.kind==2)=false:=by simp;omega
  by_cases X:L.kind=3
  ·have ax:(L.kind==3)=true:=by simp [X]
   have g:L.terms= [L.left,L.right]:=by simp [LitD.terms,X]
   have hB:=HB.out;have s:=qb hB;have c3:=s 3 _ rfl;have c4:=s 4 _ rfl;simp only [zD]at c3 c4;obtain⟨fn,tmps,assign,body,hy,x⟩:=HY.out 0 O0 W (by rw [g];simp) h0 HV.out (zG _);simp only [g,getD_cons_zero,TermD.val]at hy;have U:=zg x;have u:=zg g;clear p X g x hB s;gi_wp2;refine⟨rfl,U.out.mono ?_⟩;rintro e Y ⟨O',q,r,d,f,(⟨rfl,c⟩ |⟨rfl,c⟩)⟩
   ·have s:=qb f.1;have c5:=s 5 _ rfl;have c6:=s 6 _ rfl;simp only [zD]at c5 c6;obtain⟨fn,tmps,assign,body,hy,x⟩:=HY.out 1 O' Y (by rw [u.out];simp) c f d.size;simp only [u.out,getD_cons_succ,getD_cons_zero,TermD.val]at hy;have U:=zg x;have ap:=zg d;have z:=d.size;clear d f c q r x s;gi_wp2;refine⟨rfl,U.out.mono ?_⟩;rintro e Y2 ⟨O2,q,r,d,f,c⟩;have m:=zg f;have aW:=d.size;have j:Hid (∃O',J L.terms.length O' Y2∨ ∃k,k<L.terms.length/\Jx k O' Y2):=zg (by
     rw [u.out];rcases c with ⟨_,h⟩ |⟨_,h⟩
     ·exact⟨O2,.inl h⟩
     ·exact⟨O2,.inr ⟨1,wB,h⟩⟩)
    rcases c with ⟨rfl,c⟩ |⟨rfl,c⟩
    all_goals
     clear q r d f c;gi_wp2
     go_end0
     exact⟨⟨_,rfl⟩,xz,m.out,j.out⟩
   ·have m:=zg f;have j:=zg c;have z:=d.size;clear d f c q r;gi_wp2
    go_end0
    exact⟨⟨_,rfl⟩,xz,m.out,O',.inr ⟨0,by rw [u.out];simp,j.out⟩⟩
  ·have ax:(L.kind==3)=false:=by simp [X]
   have g:L.terms= []:=by simp [LitD.terms,p,X]
   have u:=zg g;clear p X g;gi_wp2
   go_end0
   exact⟨⟨_,rfl⟩,zG _,HV.out,O0,.inl (by rw [u.out];exact h0)⟩
theorem q0w (L:LitD)(b:Value)(w:World):Calls prog 155 #[.agg (qu L b).toArray] w fun e w'=>
  e=.returned (.func (.func 204) #[] #[.pointer (some ⟨w.heap.size,0,none⟩)])/\w'=w.alloc (.cells (qu L b).toArray 79):=by
 unfold qu
 go_enter Tryz.func155,Tryz.ntmps155
 go_wp2;go_ret;exact⟨rfl,rfl⟩
def qce (r:RuleD)(sh sb:Value):List Value:= [.string r.head.pred,sh,sb]
def qfs (n0 Bx:Nat)(w0:World)(cs:Array Value)(W:World):Prop:=W.heap[Bx]?=some (.cells cs 27 (0,0))/\Keep (fun k=>k<n0) w0 W
theorem qcf {n0 b:Nat}{e:World}{d:Array Value}{W c:World}{C:Nat->Prop}(h:qfs n0 b e d W)(hK:Keep C W c)(g: ∀k,k<n0->C k)(f:C b):qfs n0 b e d c:=
 ⟨hK.heap h.1 f,h.2.trans (hK.mono fun k _ i=>g k i)⟩
theorem qnl {n0 b:Nat}{e:World}{d:Array Value}{W c:World}{C:Nat->Prop}(h:qim n0 b e d W)(hK:Keep C W c)(g: ∀k,k<n0->C k)(f:C b):qim n0 b e d c:=
 ⟨hK.heap h.1 f,h.2.trans (hK.mono fun k _ i=>g k i)⟩
structure StandsSt (n0 Bx:Nat)(w0:World)(cs:Array Value)(J:Nat->(Nat->Prop)->World->Prop)(S By Bh Bi:Nat)(yv:Value)(hc:Array Value)(iv:Int)(j:Nat)(Oo:Nat->Prop)(W:World):Prop where
 j:J j Oo W
 v:qfs n0 Bx w0 cs W
 s:S<=W.heap.size
 o: ∀b,Oo b->b<W.heap.size
 y:W.heap[By]?=some (.cells #[yv] 237 (0,0))
 h:W.heap[Bh]?=some (.cells hc 79 (0,0))
 i:W.heap[Bi]?=some (.cells #[.int .i64 iv] 3 (0,0))
 ny: ¬Oo By
 nh: ¬Oo Bh
 ni: ¬Oo Bi
 sy:S<=By
 sh:S<=Bh
 si:S<=Bi
theorem StandsSt.keep {n0 e:Nat}{t:World}{p:Array Value}{J:Nat->(Nat->Prop)->World->Prop}{S By c d:Nat}{u:Value}{q:Array Value}{r:Int}{j:Nat}{f:Nat->Prop}{W m:World}{C:Nat->Prop}
  (h:StandsSt n0 e t p J S By c d u q r j f W) (hJ: ∀k O X Y,J k O X->Keep (fun b=>(b<S/\ ¬False)∨O b) X Y->J k O Y) (hn:n0<=S) (hB:e<S)
  (hK:Keep C W m) (g: ∀b,b<S->C b) (x: ∀b,f b->C b) (U:C By) (z:C c) (R:C d):StandsSt n0 e t p J S By c d u q r j f m:=
 {h with j:=hJ _ _ _ _ h.j (hK.mono fun b _ l=>l.elim (fun h=>g b h.1) (x b)),v:=qcf h.v hK (fun k hk=>g k xz) (g _ hB),s:=zW h.s hK.size,o:=fun b l=>zk (h.o b l) hK.size,y:=hK.heap h.y U,h:=hK.heap h.h z,i:=hK.heap h.i R}
theorem qmr (n0 Bx:Nat)(w0:World)(r:RuleD)(sh sb:Value)(bM:qad n0 w0 sh r.head.args)(bL:qfj n0 w0 sb r.body)(ck:n0<=w0.heap.size)(dG:Bx<w0.heap.size+1):
  qwl prog 154 #[.pointer (some ⟨Bx,0,none⟩)] (fun k=> #[.int .i64 (r.stands.getD k default).1,.string (r.stands.getD k default).2]) r.stands.length (qfs n0 Bx w0 (qce r sh sb).toArray) (fun _=>False):=by
 intro l J Jx O0 W hl cf hV hJ ce hY h0;refine qfb Tryz.func154 rfl ?_;simp only [Tryz.ntmps154,qdm,Nat.reduceAdd,Nat.reduceSub];obtain⟨ab,bh,rfl,dr,dp,cj⟩:=id bL;obtain⟨ah,x,rfl,c5,cT,bk⟩:=id bM;have aL:Bx<W.heap.size:=qe hV.1;have aO:n0<=W.heap.size:=zW ck hV.2.size;have c0:=qb hV.1 0 _ rfl;have c1:=qb hV.1 1 _ rfl;have c2:=qb hV.1 2 _ rfl;simp only [zD,Nat.add_zero]at c0 c1 c2;obtain⟨rc,bK⟩: ∃rc,rc=(qce r (.slice ah r.head.args.length x) (.slice ab r.body.length bh)).toArray:=⟨_,rfl⟩;rw [←bK]at hV hY⊢;refine qg5 ?_ cf hV hJ ce hY cj bk bL bM h0 bK;clear cf hV hJ ce hY cj bk bL bM h0 bK;intro bU aU aP bc cH b6 cI df ca cF b8;gi_wp2;refine wpIn_loop (fun a' wr=> ∃(u0 u1 u2 u3 u4 u5 u6 u7 u8 u9 u10 u11 u12 u13 u14 u15 u16 u17 u18 u19 u20 u21 u22 u23 u24 u25 u26 u27 u28 u29 u30 u31 u32 u33 u34 u35 u36 u37 u38:Value) (ds:List Deferred),(∃(i:Nat) (f:Nat->Prop) (Bi:Nat) (Ds:List Nat),i<=r.lits.length/\u1=.pointer (some ⟨Bx,0,none⟩)/\u2=.pointer (some ⟨W.heap.size,0,none⟩)/\u3=.pointer (some ⟨W.heap.size+1,0,none⟩)/\u4=.pointer (some ⟨Bi,0,none⟩)/\
   StandsSt n0 Bx w0 rc J W.heap.size W.heap.size (W.heap.size+1) Bi (.func (.yield l) #[] #[]) (qu r.headLit (.slice ah r.head.args.length x)).toArray ((i:Int)-1) (r.off i) f wr/\ds=q28 Ds/\Ds.Nodup/\(∀D,D∈Ds->W.heap.size<=D)/\MarksAt Ds f wr)/\
   a'={tmps:= #[u0,u1,u2,u3,u4,u5,u6,u7,u8,u9,u10,u11,u12,u13,u14,u15,u16,u17,u18,u19,u20,u21,u22,u23,u24,u25,u26,u27,u28,u29,u30,u31,u32,u33,u34,u35,u36,u37,u38],defers:=ds}) (fun a' wr=>(r.body.length+1-qrz wr (a'.tmps.getD 4 undef)).toNat) ?atStart ?round
 case atStart=>
  refine⟨_,_,_,_,_,_,_,_,_,_,_,_,_,_,_,_,_,_,_,_,_,_,_,_,_,_,_,_,_,_,_,_,_,_,_,_,_,_,_,[],⟨0,O0,W.heap.size+1+1,[],xz,rfl,rfl,rfl,rfl,?_,rfl,nodup_nil,wB,by simp [MarksAt]⟩,rfl⟩;have k1:wD W (((W.alloc (Obj.cells #[Value.func (Fn.yield l) #[] #[]] 237)).alloc (.cells (qu r.headLit (.slice ah r.head.args.length x)).toArray 79)).alloc (.cells #[.int .i64 (((0:Nat):Int)-1)] 3)):=
   (kAl.trans kAl).trans kAl
  have n1:=qh W (Obj.cells #[Value.func (Fn.yield l) #[] #[]] 237);have n2:=qh (W.alloc (Obj.cells #[Value.func (Fn.yield l) #[] #[]] 237)) (.cells (qu r.headLit (.slice ah r.head.args.length x)).toArray 79);have n3:=qh ((W.alloc (Obj.cells #[Value.func (Fn.yield l) #[] #[]] 237)).alloc (.cells (qu r.headLit (.slice ah r.head.args.length x)).toArray 79)) (.cells #[.int .i64 (((0:Nat):Int)-1)] 3);simp only [zO]at n2 n3;have ho:=bU.o;exact {j:=aP.o _ _ _ _ cF.o k1.mt,v:=qcf aU.o k1 (fun _ _=>wE) wE,s:=k1.size,o:=fun b z=>zk (ho b z) k1.size,y:=qec (qec n1 _) _,h:=qec n2 _,i:=n3,ny:=fun h=>by have:=ho _ h;omega,nh:=fun h=>by have:=ho _ h;omega,ni:=fun h=>by have:=ho _ h;omega,sy:=xz,sh:=xz,si:=by omega}
 case round=>
  rintro a' wr ⟨u0,u1,u2,u3,u4,u5,u6,u7,u8,u9,u10,u11,u12,u13,u14,u15,u16,u17,u18,u19,u20,u21,u22,u23,u24,u25,u26,u27,u28,u29,u30,u31,u32,u33,u34,u35,u36,u37,u38,ds,⟨i,f,Bi,Ds,hi,rfl,rfl,rfl,rfl,ae,rfl,ay,az,ap⟩,rfl⟩;have bj: ∀D,D∈Ds->D<wr.heap.size:=fun D hD=>qe (ap D hD).2;refine hd4 ?_ ay az ap bj;clear ay az ap bj;intro R d u af;have b1:=qbb ae.i;have bu:=qg ae.i 0;have b2:=qbb ae.y;have b3:=qb ae.h;have e1:wr.cell? ⟨Bx,2,none⟩=some (.slice ab r.body.length bh):=by
   have:=ae.v.1;rw [b8.o]at this;exact qb this 2 _ rfl
  have dK:=ae.s;have dJ:=qe ae.i;clear c0 c1 c2;by_cases av:i<r.lits.length
  ·have aH: ∃L sa,r.lits[i]?=some L/\qad n0 w0 sa L.atom.args/\((i=0/\L=r.headLit/\sa=.slice ah r.head.args.length x)∨(∃m,i=m+1/\ ∃b off,ab=some ⟨b,off,none⟩/\b<n0/\CellsE w0 b (off+m*7) (qu L sa))):=by
    cases i with
    |zero=>exact⟨r.headLit,_,rfl,ca.o,.inl ⟨rfl,rfl,rfl⟩⟩
    |succ m=>
     have hm:m<r.body.length:=by simp [RuleD.lits] at av;omega
     obtain⟨b,off,ha,z,sa,a8,c9⟩:=b6.o m _ (zB hm);exact⟨r.body[m],sa,by simp [RuleD.lits,hm],c9,.inr ⟨m,rfl,b,off,ha,z,a8⟩⟩
   obtain⟨L,sa,bw,ba,aH⟩:=aH;have bn:(i:Int)-1<r.body.length:=by simp [RuleD.lits] at av;omega
   have bo:=q1b bw;have c4:L.atom.args.length<18446744073709551616:=by obtain⟨_,cap,_,h1,h2,_⟩:=ba;omega
   obtain⟨aa,aj,rfl,c6,cU,bl⟩:=id ba;refine hd5 ?_ ae bw ba bo bl;clear ae bw ba bo bl;intro an bf b9 bq cJ;clear av;rcases aH with ⟨hi0,hL,hs⟩ |⟨m,him,b,off,rfl,z,a8⟩
   case' inl=>
    have d0:wr.cell? ⟨W.heap.size+1,0,none⟩=some (.int .i64 L.kind):=by rw [hL];exact b3 0 _ rfl
    have d1:wr.cell? ⟨W.heap.size+1,1,none⟩=some (.string L.atom.pred):=by rw [hL];exact b3 1 _ rfl
    have d2:wr.cell? ⟨W.heap.size+1,2,none⟩=some (.slice aa L.atom.args.length aj):=by rw [hs];exact b3 2 _ rfl
    have d3:wr.cell? ⟨W.heap.size+1,3,none⟩=some (.bool L.left.var):=by rw [hL];exact b3 3 _ rfl
    have d4:wr.cell? ⟨W.heap.size+1,4,none⟩=some (.string L.left.text):=by rw [hL];exact b3 4 _ rfl
    have d5:wr.cell? ⟨W.heap.size+1,5,none⟩=some (.bool L.right.var):=by rw [hL];exact b3 5 _ rfl
    have d6:wr.cell? ⟨W.heap.size+1,6,none⟩=some (.string L.right.text):=by rw [hL];exact b3 6 _ rfl
    have a3:wr.cell? ⟨Bi,0,none⟩=some (.int .i64 (-1)):=by rw [b1,hi0];rfl
    have aN:(-1:Int)<r.body.length:=xz
    clear b3 hL hs b1 hi0 bn
   case' inr=>
    have g: ∀j v,(qu L (.slice aa L.atom.args.length aj))[j]?=some v->wr.cell? ⟨b,off+m*7+j,none⟩=some v:=fun j v h=>an.o.v.2.cell (a8 j v h) z;have d0:=g 0 _ rfl;have d1:=g 1 _ rfl;have d2:=g 2 _ rfl;have d3:=g 3 _ rfl;have d4:=g 4 _ rfl;have d5:=g 5 _ rfl;have d6:=g 6 _ rfl;simp only [Nat.add_zero]at d0;have g0:=b3 0 _ rfl;have g1:=b3 1 _ rfl;have g2:=b3 2 _ rfl;have g3:=b3 3 _ rfl;have g4:=b3 4 _ rfl;have g5:=b3 5 _ rfl;have g6:=b3 6 _ rfl;simp only [zD,Nat.add_zero]at g0 g1 g2 g3 g4 g5 g6;have a3:wr.cell? ⟨Bi,0,none⟩=some (.int .i64 (m:Int)):=by rw [b1,him];congr 2;omega
    have aN:(m:Int)<r.body.length:=xz
    have bI:(0:Int)<=m:=xz
    have bG:b<wr.heap.size:=xz
    have aV:Bx<wr.heap.size:=xz
    clear b3 g a8 b1 him bn
   all_goals
    gi_wp2;refine⟨wE,rfl,(zU.2 (q0w L _ _)).mono ?_⟩;rintro e w' ⟨rfl,rfl⟩;gi_wp2;refine qnr (fun Wr=>wD wr Wr/\Wr.heap.size=wr.heap.size+2/\Wr.heap[wr.heap.size+1]?=some (.cells (qu L (.slice aa L.atom.args.length aj)).toArray 79 (0,0))) ⟨kAl.trans kAl,wB,by simpa using qh (wr.alloc _) _⟩ ?_;rintro Wr ⟨kW,sW,bW⟩;have aC:=an.o.keep aP.o aO aL kW (fun _ _=>wE) (fun _ _=>wE) trivial trivial trivial;refine qj1 (gf:=204) (lb:= #[.pointer (some ⟨wr.heap.size+1,0,none⟩)]) rfl (qc0 Tryz.func204 wA rfl) (qve n0 (wr.heap.size+1) w0 L _ b9.o ck) (fun _=>rfl) (fun _ h=>h.elim)
     ⟨bW,aC.v.2⟩ (fun X Y hv hK=>qnl hv hK (fun k hk=>xz) xz)
     (fun k O X=> ∃f,StandsSt n0 Bx w0 rc J W.heap.size W.heap.size (W.heap.size+1) Bi (.func (.yield l) #[] #[]) (qu r.headLit (.slice ah r.head.args.length x)).toArray ((i:Int)-1) (r.off i+L.cnt k) f X/\(∀b,f b->b<Wr.heap.size∨O b)/\ ¬f (wr.heap.size+1)/\MarksAt Ds f X)
     (fun c k O X=>qrn c/\ ∃j f,j<r.stands.length/\Jx j f X/\qfs n0 Bx w0 rc X/\(∀b,f b->b<Wr.heap.size∨O b)/\MarksAt Ds f X) ?hI ?hIx ?h0 ?round ?done ?stop
    case hI=>
     rintro k O X Y ⟨f,h1,h2,h3,h4⟩ hK;exact⟨f,h1.keep aP.o aO aL hK (fun b z=>.inl ⟨xz,fun h=>h⟩) (fun b z=>(h2 b z).elim (fun h=>.inl ⟨h,fun h=>h⟩) .inr) (.inl ⟨xz,fun h=>h⟩) (.inl ⟨xz,fun h=>h⟩) (.inl ⟨xz,fun h=>h⟩),h2,h3,
      h4.keep hK (fun D hD=>.inl ⟨by have:=af.o D hD;omega,fun h=>h⟩) (fun _ _ h=>h)⟩
    case hIx=>
     rintro c k O X Y ⟨hc,j,f,hj,h1,h2,h3,h4⟩ hK;exact⟨hc,j,f,hj,bc.o _ _ _ _ h1 (hK.mono fun b _ z=>z.elim (fun h=>.inl ⟨by have:=h.1;omega,fun h=>h⟩) (fun h=>(h3 b h).elim (fun h=>.inl ⟨h,fun h=>h⟩) .inr)),qcf h2 hK (fun k hk=>.inl ⟨xz,fun h=>h⟩) (.inl ⟨xz,fun h=>h⟩),h3,
      h4.keep hK (fun D hD=>.inl ⟨by have:=af.o D hD;omega,fun h=>h⟩) (fun _ _ h=>h)⟩
    case h0=>
     refine⟨f,?_,fun b z=>.inl (by have:=an.o.o b z;omega),fun h=>by have:=an.o.o _ h;omega,u.o.keep kW (fun _ _=>wE) (fun _ _ h=>h)⟩;rw [q1c];exact aC
    case round=>
     intro lr k O X dF dO cg hk hI hV dR;obtain⟨f,hI,al,aW,aA⟩:=hI;obtain⟨t,ht⟩: ∃t,L.terms[k]?=some t:=⟨_,zB hk⟩;have bN:L.terms.getD k default=t:=by simp [List.getD,ht]
     clear a3 b2 bu e1 d0 d1 d2 d3 d4 d5 d6 aN aC kW
     try clear g0 g1 g2 g3 g4 g5 g6 bI bG aV
     simp only [bN,TermD.val];refine qc9 ?_ ht hI al aW aA hV cg bN hk bW;clear ht hI al aW aA hV cg bN hk bW;intro br a2 ag aK bg aU bV dg dz dy;gi_wp2;refine⟨kAl,fun Y hY ci cS=>?_⟩;have aR:Keep (fun b=>b≠lr) X Y:=(Keep.alloc _ X _).trans hY;have nt:=hY.heap (qh X (.cells #[.bool t.var,.string t.text] 77)) (show X.heap.size≠lr from xz);have ar:=a2.o.keep aP.o aO aL aR (fun b z=>xz) (fun b z e=>(ag.o b z).elim (fun h=>xz) (fun h=>bV.o (e▸h))) xz xz xz;have a4:=bg.o.keep (O':=f) aR (fun D hD=>by have:=af.o D hD;omega) (fun _ _ h=>h);have a6:=qnl aU.o aR (fun k hk=>xz) xz;have f1:=qbb ar.y;have f2:=qbb ar.i;have f3:=qb nt 0 _ rfl;have f4:=qb nt 1 _ rfl;simp only [zD,Nat.add_zero]at f3 f4;have dm:Y.heap.size=X.heap.size+1:=by simpa using ci
     have ao:=q1d br.o;clear hY ci cS;by_cases hv:t.var=true
     ·have U:=qyk (c:=L.cnt k) bf.o (zA.1 (qvi br.o hv)).1;have hu:=(zA.1 (qvi br.o hv)).2;rw [hu]at U;have av:=(zA.1 U).1;have aY:r.stands.getD (r.off i+L.cnt k) default=((i:Int)-1,t.text):=by simp [List.getD,U]
      obtain⟨fn,tmps,assign,body,hy,hR⟩:=cH.o (r.off i+L.cnt k) f Y av ar.j ar.v ar.s;rw [aY]at hy;simp only [hv,yg]at ao;refine qg5 ?_ hR ar a4 a6 aR ao nt hu U av aY;clear hR ar a4 a6 aR ao nt hu U av aY;intro cG bR aT b4 de bp dB dA aE b7 cK;gi_wp2;refine⟨rfl,RoundIn.mono (F:=inR lr) cG.o ?_⟩;rintro e Z ⟨O',cc,aQ,au,aX,aF⟩;have dQ:=au.size;have ak: ∀b,O' b->b<Y.heap.size->f b:=fun b z av=>(aQ b z).elim id (fun h=>xz);have bz: ∀b,O' b->b<Wr.heap.size∨O b∨(X.heap.size<=b/\O' b):=fun b z=>(aQ b z).elim (fun h=>(ag.o b h).imp id .inl) (fun h=>.inr (.inr ⟨xz,z⟩));have a9:Keep (fun b=>Wr.heap.size<=b/\b<X.heap.size/\ ¬O b) Y Z:=au.mono (fun b _ h=>⟨xz,fun ho=>(ag.o b ho).elim (fun h'=>by have:=h.1;omega) h.2.2⟩);have a5:=aT.o.keep (O':=O') au (fun D hD=>⟨d.o D hD,(aT.o D hD).1⟩) (fun D hD h ho=>h (ak D ho (by have:=qe (aT.o D hD).2;omega)));have a7:qim n0 (wr.heap.size+1) w0 (qu L (.slice aa L.atom.args.length aj)).toArray Z:=⟨au.heap b4.o.1 ⟨xz,aK.o⟩,aX.2⟩;have bJ: ¬O' (wr.heap.size+1):=fun h=>aK.o (ak _ h xz);have p:=bR.o;have cZ:=qe p.y;have cW:=qe p.h;have cX:=qe p.i;rcases aF with ⟨rfl,aF⟩ |⟨rfl,aF⟩
      ·have bD:StandsSt n0 Bx w0 rc J W.heap.size W.heap.size (W.heap.size+1) Bi (.func (.yield l) #[] #[]) (qu r.headLit (.slice ah r.head.args.length x)).toArray ((i:Int)-1) (r.off i+L.cnt (k+1)) O' Z:=
        {j:=by rw [bp.o];exact aF,v:=aX,s:=xz,o:=fun b z=>(aQ b z).elim (fun h=>by have:=p.o b h;omega) (fun h=>h.2),y:=au.heap p.y ⟨p.sy,p.ny⟩,h:=au.heap p.h ⟨p.sh,p.nh⟩,i:=au.heap p.i ⟨p.si,p.ni⟩,ny:=fun h=>p.ny (ak _ h cZ),nh:=fun h=>p.nh (ak _ h cW),ni:=fun h=>p.ni (ak _ h cX),sy:=p.sy,sh:=p.sh,si:=p.si}
       have ad:qd3 Wr.heap.size X.heap.size (qim n0 (wr.heap.size+1) w0 (qu L (.slice aa L.atom.args.length aj)).toArray) O Y Z (fun aS=> ∃f,StandsSt n0 Bx w0 rc J W.heap.size W.heap.size (W.heap.size+1) Bi (.func (.yield l) #[] #[]) (qu r.headLit (.slice ah r.head.args.length x)).toArray ((i:Int)-1) (r.off i+L.cnt (k+1)) f Z/\(∀b,f b->b<Wr.heap.size∨aS b)/\ ¬f (wr.heap.size+1)/\MarksAt Ds f Z):=
        ⟨fun b=>O b∨(X.heap.size<=b/\O' b),fun b h=>.inl h,fun b h=>h.imp id (fun h=>⟨h.1,bD.o b h.2⟩),a9,a7,O',bD,bz,bJ,a5⟩
       clear bD a5 a7 bJ a9 bz ak aF p au aX cc aQ;refine hd1 ?_ ad;clear ad;intro ai;gi_wp2;exact ai.o
      ·have ad:qd3 Wr.heap.size X.heap.size (qim n0 (wr.heap.size+1) w0 (qu L (.slice aa L.atom.args.length aj)).toArray) O Y Z (fun aS=>qrn .ret/\ ∃j f,j<r.stands.length/\Jx j f Z/\qfs n0 Bx w0 rc Z/\(∀b,f b->b<Wr.heap.size∨aS b)/\MarksAt Ds f Z):=
        ⟨fun b=>O b∨(X.heap.size<=b/\b<Z.heap.size/\O' b),fun b h=>.inl h,fun b h=>h.imp id (fun h=>⟨h.1,h.2.1⟩),a9,a7,rfl,_,O',b7.o,aF,aX,fun b z=>(aQ b z).elim (fun h=>(ag.o b h).imp id .inl) (fun h=>.inr (.inr ⟨xz,h.2,z⟩)),a5⟩
       clear a5 a7 bJ a9 bz ak aF p au aX cc aQ;refine hd1 ?_ ad;clear ad;intro ai;gi_wp2;exact ai.o
     ·have db:t.var=false:=by simpa using hv
      simp only [db,yx,Nat.add_zero,zy]at ao;have ad:qd3 Wr.heap.size X.heap.size (qim n0 (wr.heap.size+1) w0 (qu L (.slice aa L.atom.args.length aj)).toArray) O Y Y (fun aS=> ∃f,StandsSt n0 Bx w0 rc J W.heap.size W.heap.size (W.heap.size+1) Bi (.func (.yield l) #[] #[]) (qu r.headLit (.slice ah r.head.args.length x)).toArray ((i:Int)-1) (r.off i+L.cnt (k+1)) f Y/\(∀b,f b->b<Wr.heap.size∨aS b)/\ ¬f (wr.heap.size+1)/\MarksAt Ds f Y):=
       ⟨O,fun b h=>h,fun b h=>.inl h,Keep.refl _ _,a6,f,by rw [ao];exact ar,ag.o,aK.o,a4⟩
      clear hv ar a4 a6 aR ao nt;refine hd1 ?_ ad;clear ad;intro ai;gi_wp2;refine⟨fun _ h=>(by cases h),?_⟩;gi_wp2;exact ai.o
    case done=>
     rintro D O Wd hD bx aG c7 ⟨f,hI,al,aW,aA⟩ hV;have f2:=qbb hI.i;have dI:=qe hI.i;have dn:=hI.si;rw [q3h,←bq.o]at hI;have ap:MarksAt (D::Ds) f Wd:=fun E hE=>by
      rcases zt.1 hE with rfl |hE
      ·exact⟨fun h=>(al _ h).elim (fun h=>xz) bx,aG⟩
      ·exact aA E hE
     have ay:(D::Ds).Nodup:=xR.2 ⟨fun h=>by have:=af.o D h;omega,R.o⟩;have az: ∀E,E∈D::Ds->W.heap.size<=E:=fun E hE=>by
      rcases zt.1 hE with rfl |hE
      ·omega
      ·exact d.o E hE
     have bm:=(zA.1 bf.o).1;clear a3 b2 bu e1 d0 d1 d2 d3 d4 d5 d6 aN aC kW R d u
     try clear g0 g1 g2 g3 g4 g5 g6 bI bG aV
     refine qc9 ?_ hI al aW aA hV aG ap ay az bm;clear hI al aW aA hV aG ap ay az bm;intro a2 ag aK bg aU b5 u R d aD;have cY:(i:Int)<=1099511627776:=by have:=aD.o;simp [RuleD.lits] at this;omega
     have dq:(0:Int)<=i:=xz
     gi_wp2;refine⟨⟨_,_,_,_,_,_,_,_,_,_,_,_,_,_,_,_,_,_,_,_,_,_,_,_,_,_,_,_,_,_,_,_,_,_,_,_,_,_,_,_,⟨i+1,f,Wd.heap.size,D::Ds,by have:=aD.o;omega,rfl,rfl,rfl,rfl,?_,rfl,R.o,d.o,u.o.keep kAl (fun _ _=>wE) (fun _ _ h=>h)⟩,rfl⟩,?_⟩
     ·have cR:=a2.o.keep (C:=fun _=>True) aP.o aO aL (Keep.alloc _ Wd (.cells #[.int .i64 (i:Int)] 3)) (fun _ _=>wE) (fun _ _=>wE) trivial trivial trivial;have hn:=qh Wd (.cells #[.int .i64 (i:Int)] 3);have he:((i+1:Nat):Int)-1=i:=by omega
      exact {cR with i:=by rw [he];exact hn,ni:=fun h=>by have:=a2.o.o _ h;omega,si:=by omega}
     ·have h1:=qqa (w:=wr) (q:=⟨Bi,0,none⟩) (qbb an.o.i);have h2:=qqa (w:=Wd.alloc (.cells #[.int .i64 (i:Int)] 3)) (q:=⟨Wd.heap.size,0,none⟩) (qbb (qh Wd _));have:=aD.o;simp [RuleD.lits]at this;simp only [Array.getD_eq_getD_getElem?,getElem?_toArray,getElem?_cons_succ,getElem?_cons_zero,Option.getD_some,h1,h2];omega
    case stop=>
     rintro D c k O Wd hD bx aG c7 hk ⟨cl,j,f,hj,cd,ch,al,aA⟩ hV;obtain rfl:c=.ret:=cl;have ap:MarksAt (D::Ds) f Wd:=fun E hE=>by
      rcases zt.1 hE with rfl |hE
      ·exact⟨fun h=>(al _ h).elim (fun h=>xz) bx,aG⟩
      ·exact aA E hE
     have ay:(D::Ds).Nodup:=xR.2 ⟨fun h=>by have:=af.o D h;omega,R.o⟩;have az: ∀E,E∈D::Ds->W.heap.size<=E:=fun E hE=>by
      rcases zt.1 hE with rfl |hE
      ·omega
      ·exact d.o E hE
     clear a3 b2 bu e1 d0 d1 d2 d3 d4 d5 d6 aN aC kW R d u
     try clear g0 g1 g2 g3 g4 g5 g6 bI bG aV
     refine hd8 ?_ cd al hV ch aG ap ay az;clear cd al hV ch aG ap ay az;intro bS ag aU b0 b5 u R d;gi_wp2;refine qf4 (D::Ds) _ R.o (fun E hE=>(u.o E hE).2) (fun w' hK hs=>qb7 (yr rfl _ _ _) ?_);exact⟨⟨_,rfl⟩,xz,qcf b0.o hK (fun b z h=>by have:=d.o b h;omega) (fun h=>by have:=d.o _ h;omega),f,.inr ⟨j,hj,bc.o _ _ _ _ bS.o (hK.mono fun b _ z=>z.elim (fun h h'=>by have:=d.o b h';omega) (fun h h'=>(u.o b h').1 h))⟩⟩
  ·have cV:i=r.lits.length:=by omega
   subst cV;have U:=ae;rw [q3g]at U;have dN: ¬(((r.lits.length:Nat):Int)-1<r.body.length):=by simp [RuleD.lits]
   have cY:(r.lits.length:Int)<=1099511627777:=by simp [RuleD.lits];omega
   clear av hi;refine hd3 ?_ ae U b3;clear ae U b3;intro an aE dx;gi_wp2;refine qf4 Ds _ R.o (fun E hE=>(u.o E hE).2) (fun w' hK hs=>qb7 (yr rfl _ _ _) ?_);exact⟨⟨_,rfl⟩,xz,qcf aE.o.v hK (fun b z h=>by have:=d.o b h;omega) (fun h=>by have:=d.o _ h;omega),f,.inl (aP.o _ _ _ _ aE.o.j (hK.mono fun b _ z=>z.elim (fun h h'=>by have:=d.o b h';omega) (fun h h'=>(u.o b h').1 h)))⟩
theorem qps:qb2 prog 60 9 1 16:=qcl (z:=.string ⟨#[]⟩) wA wA rfl wC wC
theorem qph (r:RuleD)(c:Option Addr)(nh f:Nat)(b:Option Addr)(g d:Nat)(w:World):Calls prog 112 #[.agg #[.string r.head.pred,.slice c nh f,.slice b g d]] w fun e w'=>
  e=.returned (.func (.func 154) #[] #[.pointer (some ⟨w.heap.size,0,none⟩)])/\w'=w.alloc (.cells (qce r (.slice c nh f) (.slice b g d)).toArray 27):=by
 go_enter Tryz.func112,Tryz.ntmps112
 go_wp2;go_ret;exact⟨rfl,rfl⟩
structure CollectSt (B n1 Bo Bm M:Nat)(w:World)(O:Nat->Prop)(ss:List ByteArray)(W:World):Prop where
 own: ∃v,W.heap[Bo]?=some (.cells #[v] 60 (0,0))/\W.ownsRow n1 9 1 v ss.length (ss.map .string)/\ ∀b,v.ownBlock=some b->O b/\B<=b
 mbox:W.heap[Bm]?=some (.cells #[.map (some M)] 175 (0,0))
 set:SetIn W M ss
 old:Keep (fun k=>k<n1) w W
theorem CollectSt.keep {B n1 c Bm M:Nat}{w:World}{O:Nat->Prop}{ss:List ByteArray}{W e:World}{C:Nat->Prop}(h:CollectSt B n1 c Bm M w O ss W)(hK:Keep C W e)
  (ho:C c) (q:C Bm) (m:C M) (p: ∀b,O b->C b) (r: ∀b,b<n1->C b):CollectSt B n1 c Bm M w O ss e:=by
 obtain⟨⟨v,g,i,f⟩,j,k,l⟩:=h;exact⟨⟨v,hK.heap g ho,qf i hK (fun b d=>p b (f b d).1),f⟩,hK.heap j q,k.keep hK m,l.trans (hK.mono fun b _ d=>r b d)⟩
theorem q22 (r:RuleD)(sh sb:Value)(w:World)(hr:RuleIn w.heap.size w sh sb r)(hN:r.stands.length<=1073741824):
  Calls prog 153 #[.agg #[.string r.head.pred,sh,sb]] w fun e w'=>
   ∃v,e=.returned v/\Keep (fun k=>k<w.heap.size) w w'/\w'.ownsRow w.heap.size 9 1 v (qa2 r.names).length ((qa2 r.names).map .string):=by
 refine qfb Tryz.func153 rfl ?_;simp only [Tryz.ntmps153,qdm,Nat.reduceAdd,Nat.reduceSub];obtain⟨⟨ah,z,rfl,bh,bc,aj⟩,⟨ab,y,rfl,bg,bb,ai⟩⟩:=id hr;have aM:= @run_makeMap prog;refine hd3 ?_ hr aj ai;clear hr aj ai;intro a2 a1 a0;gi_wp2;refine⟨wE,rfl,(zU.2 (qph r _ _ _ _ _ _ _)).mono ?_⟩;rintro e w' ⟨rfl,rfl⟩;gi_wp2;refine qnr (fun g=>wD w g/\g.heap.size=w.heap.size+1+1+1+1+1/\g.heap[w.heap.size+1]?=some (.cells #[.slice none 0 0] 60 (0,0))/\g.heap[w.heap.size+1+1]?=some (.map #[] 0)/\
   g.heap[w.heap.size+1+1+1]?=some (.cells #[.map (some (w.heap.size+1+1))] 175 (0,0))/\g.heap[w.heap.size+1+1+1+1]?=some (.cells (qce r (.slice ah r.head.args.length z) (.slice ab r.body.length y)).toArray 27 (0,0)))
  ⟨(((kAl.trans kAl).trans kAl).trans kAl).trans kAl,wB,by simp only [qah,zO];simp,by simp only [qah,zO];simp,by simp only [qah,zO];simp,by simp only [qah,zO];simp⟩ ?_
 rintro g ⟨kW,sW,h1,h2,h3,h4⟩;have q:=a2.o;refine qj1 (gf:=154) (lb:= #[.pointer (some ⟨w.heap.size+1+1+1+1,0,none⟩)]) rfl (qc0 Tryz.func154 wA rfl)
  (qmr w.heap.size (w.heap.size+1+1+1+1) g r _ _ (qq q.1 kW.mt) (qid q.2 kW.mt) xz xz) (fun _=>rfl) (fun _ h=>h.elim)
  ⟨h4,Keep.refl _ _⟩ (fun X Y hv hK=>qcf hv hK (fun k hk=>xz) xz)
  (fun k O X=>CollectSt g.heap.size w.heap.size (w.heap.size+1) (w.heap.size+1+1+1) (w.heap.size+1+1) w O (qa2 (r.names.take k)) X)
  (fun c k O X=>False) ?hI ?hIx ?h0 ?round ?done ?stop
 case hI=>
  intro k O X Y h hK;exact h.keep hK (.inl ⟨xz,fun h=>h⟩) (.inl ⟨xz,fun h=>h⟩) (.inl ⟨xz,fun h=>h⟩) (fun b f=>.inr f) (fun b f=>.inl ⟨xz,fun h=>h⟩)
 case hIx=>intro c k O X Y h;exact h.elim
 case h0=>exact⟨⟨_,h1,zj _ _ _ _,fun b f=>by simp [Value.ownBlock] at f⟩,h3,⟨#[],0,h2,rfl⟩,kW.mt⟩
 case round=>
  intro lr k O X bx bG aE hk hI hV bJ;obtain⟨s,hs⟩:=ex ((r.stands.getD k default).2);have aP:r.names[k]?=some s:=by simp [RuleD.names,←hs,List.getD,zB hk]
  rw [hs];clear h1 h2 h3 h4 kW aM;refine hd7 ?_ hI hs aP hV hk aE q;clear hI hs aP hV hk aE q;intro aZ bu aC ay bt ax aB;gi_wp2;refine⟨Keep.refl _ _,fun Y hY ap aH=>?_⟩;have ad:=aZ.o.keep hY xz xz xz (fun b f e=>ax.o (e▸f)) (fun b f=>xz);have ae:=qcf ay.o hY (fun b f=>xz) xz;obtain⟨⟨v,U,c2,R⟩,c4,c5,c6⟩:=id ad;have d1:=qbb U;have a5:=qg U 0;have d2:=qbb c4;have aL:=qh1 (P:=prog) (T:=175) (K:=9) (E:=4) Tryz.underlying175 Tryz.underlying9 (fun _=>wA) c5 s;have t:qa2 (r.names.take (k+1))=if s∈qa2 (r.names.take k) then qa2 (r.names.take k) else qa2 (r.names.take k)++ [s]:=by
   rw [←qhl,zh,aC.o];rfl
  have p: ∀(O':Nat->Prop) (Z:World),(∀b,O b->O' b)->(∀b,O' b->O b∨(X.heap.size<=b/\b<Z.heap.size))->Keep (fun b=>g.heap.size<=b/\b<X.heap.size/\ ¬O b) Y Z->qfs w.heap.size (w.heap.size+1+1+1+1) g (qce r (.slice ah r.head.args.length z) (.slice ab r.body.length y)).toArray Z->
    CollectSt g.heap.size w.heap.size (w.heap.size+1) (w.heap.size+1+1+1) (w.heap.size+1+1) w O' (qa2 (r.names.take (k+1))) Z->
    qd3 g.heap.size X.heap.size (qfs w.heap.size (w.heap.size+1+1+1+1) g (qce r (.slice ah r.head.args.length z) (.slice ab r.body.length y)).toArray) O Y Z (fun O'=>CollectSt g.heap.size w.heap.size (w.heap.size+1) (w.heap.size+1+1+1) (w.heap.size+1+1) w O' (qa2 (r.names.take (k+1))) Z):=fun O' Z a b c d e=>⟨O',a,b,c,d,e⟩
  by_cases i:s∈qa2 (r.names.take k)
  ·have j:decide (s∈qa2 (r.names.take k))=true:=by simpa using i
   rw [j]at aL;rw [zI i]at t;have hf:=p O Y (fun _ h=>h) (fun _ h=>.inl h) (Keep.refl _ _) ae (by rw [t];exact ad);clear p ad ae U c2 R c4 c5 c6 t i j hY ap aH d1 a5;refine hd1 ?_ hf;clear hf;intro ak;gi_wp2;exact ak.o
  ·have j:decide (s∈qa2 (r.names.take k))=false:=by simpa using i
   rw [j]at aL;rw [zF i]at t;obtain⟨W1,bH,ar,af,bk⟩:=qh2 (P:=prog) (T:=175) (K:=9) (E:=4) Tryz.underlying175 Tryz.underlying9 c5 s;rw [zF i]at ar;have e1:=af.heap U xz;have bn:Y.heap.size=X.heap.size:=ap;have e2:W1.ownsRow w.heap.size 9 1 v (qa2 (r.names.take k)).length ((qa2 (r.names.take k)).map .string):=qf c2 af (fun b f=>by have:=(R b f).2;omega);have d3:=qbb e1;have bv:=qg e1 0;have bf:(qa2 (r.names.take k)).length<=1073741824:=by have:=qlv (r.names.take k);have:r.names.length=r.stands.length:=(by simp [RuleD.names]);simp at*;omega
   have bz:=c6.size;obtain⟨v2,W2,aO,aN,ag,g2,x,bj,aq,bF⟩:=qdd qps 60 e2 [.string s] rfl (by simp [Value.oneCell']) xz xz;subst bj;have m: ∀b,b<g.heap.size->some b≠v.ownBlock:=fun b f e=>by have:=(R b e.symm).2;omega
   have aa:=ag.heap e1 (m _ xz);have e4:=qbb aa;have bw:=qg aa 0;have ba:(W2.setCell ⟨w.heap.size+1,0,none⟩ (.slice (some ⟨g2,0,none⟩) ((qa2 (r.names.take k)).length+1) x)).heap.size=W2.heap.size:=by simp [World.setCell]
   have aK:O g2∨X.heap.size<=g2:=aq.imp (fun h=>(R _ h).1) (fun h=>xz);have bD:g.heap.size<=g2:=aq.elim (fun h=>(R _ h).2) (fun h=>xz);have k3: ∀u,Keep (fun b=>b≠w.heap.size+1) W2 (W2.setCell ⟨w.heap.size+1,0,none⟩ u):=fun u=>kSc;have l:Keep (fun b=>b≠w.heap.size+1/\b≠w.heap.size+1+1/\some b≠v.ownBlock) Y (W2.setCell ⟨w.heap.size+1,0,none⟩ (.slice (some ⟨g2,0,none⟩) ((qa2 (r.names.take k)).length+1) x)):=
    ((af.mono fun b _ h=>h.2.1).trans (ag.mono fun b _ h=>h.2.2)).trans ((k3 _).mono fun b _ h=>h.1)
   have hf:=p (fun b=>O b∨b=g2) (W2.setCell ⟨w.heap.size+1,0,none⟩ (.slice (some ⟨g2,0,none⟩) ((qa2 (r.names.take k)).length+1) x)) (fun _ h=>.inl h)
    (fun b h=>h.elim .inl (fun e=>by subst e;exact aK.imp id (fun h=>⟨h,xz⟩)))
    (l.mono fun b _ h=>⟨xz,xz,fun e=>h.2.2 (R b e.symm).1⟩)
    (qcf ae l (fun b f=>⟨xz,xz,m b xz⟩) ⟨xz,xz,m _ xz⟩)
    (by
     rw [t];refine⟨⟨_,qgj _ aa,?_,fun b f=>?_⟩,l.heap c4 ⟨xz,xz,m _ xz⟩,(ar.keep ag (m _ xz)).keep (k3 _) xz,c6.trans (l.mono fun b _ f=>⟨xz,xz,m b xz⟩)⟩
     ·simp only [zR,length_cons,length_nil,zm,yW,xi,zF i];exact qf aN (k3 _) (fun b f=>by simp [Value.ownBlock] at f;omega)
     ·simp only [Value.ownBlock,yb]at f;exact⟨.inr f.symm,xz⟩)
   clear p ad ae U c2 R c4 c5 c6 t i j hY ap aH ar af bk e2 aN ag aq e1 aa l k3 m aK ba;refine hd2 ?_ aO hf;clear aO hf;intro aA ak
   gi_wp2_with (gi_at_builtin;refine qby rfl _ _ _ rfl rfl rfl aA.o ?_)
   exact ak.o
 case done=>
  rintro D O W hD aD aG bI hI hV;have aI:r.names.take r.stands.length=r.names:=yw (by simp [RuleD.names]);rw [aI]at hI;obtain⟨⟨v,U,c2,R⟩,c4,c5,c6⟩:=hI;have d1:=qbb U;clear h1 h2 h3 h4 kW aM;refine qc9 ?_ U c2 R c4 c5 c6 hV aD aG q;clear U c2 R c4 c5 c6 hV aD aG q;intro bp aW aX bq br aY ay aw az aB;gi_wp2;refine qgw az.o (qb7 (xm rfl _ _ _) ⟨v,rfl,?_,?_⟩)
  ·exact aY.o.trans (Keep.putObj _ _ _ xz)
  ·exact qf aW.o (Keep.putObj (C:=fun b=>b≠D) _ _ _ wB) (fun b f e=>aw.o (e▸(aX.o b f).1))
 case stop=>intro D c k O W _ _ _ _ _ h;exact h.elim
end Go.Proofs.S12
