/- Parts of the proof. -/
import Derived.Test.YtnponcjnahicnaaGreatDoorPnWToTerms
set_option linter.unusedSimpArgs false
set_option linter.unusedVariables false
set_option maxRecDepth 100000
set_option maxHeartbeats 2000000
open Go.Proofs.Tryz(prog)
open List(getElem?_cons_succ getElem?_cons_zero getElem?_toArray length_cons length_nil mem_map_of_mem nil_append nodup_nil)
namespace Go.Proofs.S12
open Go.RowKit Go.Ink
attribute [local go_sem] Oper.semAt_some
def qct (r:RuleD)(sh sb:Value):List Value:= [.string r.head.pred,sh,sb]
def qgo (n0 Bx:Nat)(w0:World)(cs:Array Value)(W:World):Prop:=W.heap[Bx]?=some (.cells cs 27 (0,0))/\Keep (fun k=>k<n0) w0 W
theorem qcu {n0 b:Nat}{e:World}{d:Array Value}{W c:World}{C:Nat->Prop}(h:qgo n0 b e d W)(hK:Keep C W c)(l: ∀k,k<n0->C k)(g:C b):qgo n0 b e d c:=
 ⟨hK.heap h.1 g,h.2.trans (hK.mono fun k _ m=>l k m)⟩
theorem qo5 {n0 b:Nat}{e:World}{d:Array Value}{W c:World}{C:Nat->Prop}(h:qjb n0 b e d W)(hK:Keep C W c)(l: ∀k,k<n0->C k)(g:C b):qjb n0 b e d c:=
 ⟨hK.heap h.1 g,h.2.trans (hK.mono fun k _ m=>l k m)⟩
structure StandsSt (n0 Bx:Nat)(w0:World)(cs:Array Value)(J:Nat->(Nat->Prop)->World->Prop)(S By Bh Bi:Nat)(yv:Value)(hc:Array Value)(iv:Int)(j:Nat)(Oo:Nat->Prop)(W:World):Prop where
 j:J j Oo W
 v:qgo n0 Bx w0 cs W
 s:S<=W.heap.size
 o: ∀b,Oo b->b<W.heap.size
 y:W.heap[By]?=some (.cells #[yv] 237 (0,0))
 h:W.heap[Bh]?=some (.cells hc 79 (0,0))
 i:W.heap[Bi]?=some (.cells #[.int .i64 iv] 3 (0,0))
 ny: ¬Oo By
 nh: ¬Oo Bh
 ni: ¬Oo Bi
 sy:S<=By
 sh:S<=Bh
 si:S<=Bi
theorem StandsSt.keep {n0 e:Nat}{x:World}{q:Array Value}{J:Nat->(Nat->Prop)->World->Prop}{S By c d:Nat}{z:Value}{t:Array Value}{u:Int}{j:Nat}{g:Nat->Prop}{W p:World}{C:Nat->Prop}
  (h:StandsSt n0 e x q J S By c d z t u j g W) (hJ: ∀k O X Y,J k O X->Keep (fun b=>(b<S/\ ¬False)∨O b) X Y->J k O Y) (hn:n0<=S) (hB:e<S)
  (hK:Keep C W p) (l: ∀b,b<S->C b) (R: ∀b,g b->C b) (cy:C By) (U:C c) (ci:C d):StandsSt n0 e x q J S By c d z t u j g p:=
 {h with j:=hJ _ _ _ _ h.j (hK.mono fun b _ m=>m.elim (fun h=>l b h.1) (R b)),v:=qcu h.v hK (fun k hk=>l k wA) (l _ hB),s:=zW h.s hK.size,o:=fun b m=>zk (h.o b m) hK.size,y:=hK.heap h.y cy,h:=hK.heap h.h U,i:=hK.heap h.i ci}
theorem qn7 (n0 Bx:Nat)(w0:World)(r:RuleD)(sh sb:Value)(bL:qak n0 w0 sh r.head.args)(bK:qge n0 w0 sb r.body)(cj:n0<=w0.heap.size)(dE:Bx<w0.heap.size+1):
  qzm prog 154 #[.pointer (some ⟨Bx,0,none⟩)] (fun k=> #[.int .i64 (r.stands.getD k default).1,.string (r.stands.getD k default).2]) r.stands.length (qgo n0 Bx w0 (qct r sh sb).toArray) (fun _=>False):=by
 intro l J Jx O0 W hl ce hV hJ cd hY h0;refine qf5 Tryz.func154 rfl ?_;simp only [Tryz.ntmps154,qdy,Nat.reduceAdd,Nat.reduceSub];obtain⟨ab,bh,rfl,dq,dn,ci⟩:=id bK;obtain⟨ah,z,rfl,c4,cS,bk⟩:=id bL;have aM:Bx<W.heap.size:=qe hV.1;have aP:n0<=W.heap.size:=zW cj hV.2.size;have c0:=qb hV.1 0 _ rfl;have c1:=qb hV.1 1 _ rfl;have c2:=qb hV.1 2 _ rfl;simp only [zD,Nat.add_zero]at c0 c1 c2;obtain⟨rc,bJ⟩: ∃rc,rc=(qct r (.slice ah r.head.args.length z) (.slice ab r.body.length bh)).toArray:=⟨_,rfl⟩;rw [←bJ]at hV hY⊢;refine qib ?_ ce hV hJ cd hY ci bk bK bL h0 bJ;clear ce hV hJ cd hY ci bk bK bL h0 bJ;intro bS aV aQ bd cG b5 cH de b9 cE b7;gi_wp2;refine wpIn_loop (fun a' wr=> ∃(u0 u1 u2 u3 u4 u5 u6 u7 u8 u9 u10 u11 u12 u13 u14 u15 u16 u17 u18 u19 u20 u21 u22 u23 u24 u25 u26 u27 u28 u29 u30 u31 u32 u33 u34 u35 u36 u37 u38:Value) (ds:List Deferred),(∃(i:Nat) (p:Nat->Prop) (Bi:Nat) (Ds:List Nat),i<=r.lits.length/\u1=.pointer (some ⟨Bx,0,none⟩)/\u2=.pointer (some ⟨W.heap.size,0,none⟩)/\u3=.pointer (some ⟨W.heap.size+1,0,none⟩)/\u4=.pointer (some ⟨Bi,0,none⟩)/\
   StandsSt n0 Bx w0 rc J W.heap.size W.heap.size (W.heap.size+1) Bi (.func (.yield l) #[] #[]) (qap r.headLit (.slice ah r.head.args.length z)).toArray ((i:Int)-1) (r.off i) p wr/\ds=q7a Ds/\Ds.Nodup/\(∀D,D∈Ds->W.heap.size<=D)/\MarksAt Ds p wr)/\
   a'={tmps:= #[u0,u1,u2,u3,u4,u5,u6,u7,u8,u9,u10,u11,u12,u13,u14,u15,u16,u17,u18,u19,u20,u21,u22,u23,u24,u25,u26,u27,u28,u29,u30,u31,u32,u33,u34,u35,u36,u37,u38],defers:=ds}) (fun a' wr=>(r.body.length+1-que wr (a'.tmps.getD 4 undef)).toNat) ?atStart ?round
 case atStart=>
  refine⟨_,_,_,_,_,_,_,_,_,_,_,_,_,_,_,_,_,_,_,_,_,_,_,_,_,_,_,_,_,_,_,_,_,_,_,_,_,_,_,[],⟨0,O0,W.heap.size+1+1,[],wA,rfl,rfl,rfl,rfl,?_,rfl,nodup_nil,wC,by simp [MarksAt]⟩,rfl⟩;have k1:wE W (((W.alloc (Obj.cells #[Value.func (Fn.yield l) #[] #[]] 237)).alloc (.cells (qap r.headLit (.slice ah r.head.args.length z)).toArray 79)).alloc (.cells #[.int .i64 (((0:Nat):Int)-1)] 3)):=
   (kAl.trans kAl).trans kAl
  have n1:=qh W (Obj.cells #[Value.func (Fn.yield l) #[] #[]] 237);have n2:=qh (W.alloc (Obj.cells #[Value.func (Fn.yield l) #[] #[]] 237)) (.cells (qap r.headLit (.slice ah r.head.args.length z)).toArray 79);have n3:=qh ((W.alloc (Obj.cells #[Value.func (Fn.yield l) #[] #[]] 237)).alloc (.cells (qap r.headLit (.slice ah r.head.args.length z)).toArray 79)) (.cells #[.int .i64 (((0:Nat):Int)-1)] 3);simp only [zO]at n2 n3;have ho:=bS.o;exact {j:=aQ.o _ _ _ _ cE.o k1.mt,v:=qcu aV.o k1 (fun _ _=>wF) wF,s:=k1.size,o:=fun b R=>zk (ho b R) k1.size,y:=qf0 (qf0 n1 _) _,h:=qf0 n2 _,i:=n3,ny:=fun h=>by have:=ho _ h;omega,nh:=fun h=>by have:=ho _ h;omega,ni:=fun h=>by have:=ho _ h;omega,sy:=wA,sh:=wA,si:=by omega}
 case round=>
  rintro a' wr ⟨u0,u1,u2,u3,u4,u5,u6,u7,u8,u9,u10,u11,u12,u13,u14,u15,u16,u17,u18,u19,u20,u21,u22,u23,u24,u25,u26,u27,u28,u29,u30,u31,u32,u33,u34,u35,u36,u37,u38,ds,⟨i,p,Bi,Ds,hi,rfl,rfl,rfl,rfl,af,rfl,az,aA,aq⟩,rfl⟩;have bj: ∀D,D∈Ds->D<wr.heap.size:=fun D hD=>qe (aq D hD).2;refine hd4 ?_ az aA aq bj;clear az aA aq bj;intro U d x ag;have b1:=qbn af.i;have bt:=qg af.i 0;have b2:=qbn af.y;have b3:=qb af.h;have e1:wr.cell? ⟨Bx,2,none⟩=some (.slice ab r.body.length bh):=by
   have:=af.v.1;rw [b7.o]at this;exact qb this 2 _ rfl
  have dI:=af.s;have dH:=qe af.i;clear c0 c1 c2;by_cases aw:i<r.lits.length
  ·have aI: ∃L sa,r.lits[i]?=some L/\qak n0 w0 sa L.atom.args/\((i=0/\L=r.headLit/\sa=.slice ah r.head.args.length z)∨(∃m,i=m+1/\ ∃b off,ab=some ⟨b,off,none⟩/\b<n0/\CellsE w0 b (off+m*7) (qap L sa))):=by
    cases i with
    |zero=>exact⟨r.headLit,_,rfl,b9.o,.inl ⟨rfl,rfl,rfl⟩⟩
    |succ m=>
     have hm:m<r.body.length:=by simp [RuleD.lits] at aw;omega
     obtain⟨b,off,ha,R,sa,a9,c8⟩:=b5.o m _ (zB hm);exact⟨r.body[m],sa,by simp [RuleD.lits,hm],c8,.inr ⟨m,rfl,b,off,ha,R,a9⟩⟩
   obtain⟨L,sa,bv,bb,aI⟩:=aI;have bn:(i:Int)-1<r.body.length:=by simp [RuleD.lits] at aw;omega
   have bo:=q5l bv;have c3:L.atom.args.length<18446744073709551616:=by obtain⟨_,cap,_,h1,h2,_⟩:=bb;omega
   obtain⟨aa,ak,rfl,c5,cT,bl⟩:=id bb;refine hd5 ?_ af bv bb bo bl;clear af bv bb bo bl;intro ao bf b8 bq cI;clear aw;rcases aI with ⟨hi0,hL,hs⟩ |⟨m,him,b,off,rfl,R,a9⟩
   case' inl=>
    have d0:wr.cell? ⟨W.heap.size+1,0,none⟩=some (.int .i64 L.kind):=by rw [hL];exact b3 0 _ rfl
    have d1:wr.cell? ⟨W.heap.size+1,1,none⟩=some (.string L.atom.pred):=by rw [hL];exact b3 1 _ rfl
    have d2:wr.cell? ⟨W.heap.size+1,2,none⟩=some (.slice aa L.atom.args.length ak):=by rw [hs];exact b3 2 _ rfl
    have d3:wr.cell? ⟨W.heap.size+1,3,none⟩=some (.bool L.left.var):=by rw [hL];exact b3 3 _ rfl
    have d4:wr.cell? ⟨W.heap.size+1,4,none⟩=some (.string L.left.text):=by rw [hL];exact b3 4 _ rfl
    have d5:wr.cell? ⟨W.heap.size+1,5,none⟩=some (.bool L.right.var):=by rw [hL];exact b3 5 _ rfl
    have d6:wr.cell? ⟨W.heap.size+1,6,none⟩=some (.string L.right.text):=by rw [hL];exact b3 6 _ rfl
    have a4:wr.cell? ⟨Bi,0,none⟩=some (.int .i64 (-1)):=by rw [b1,hi0];rfl
    have aO:(-1:Int)<r.body.length:=wA
    clear b3 hL hs b1 hi0 bn
   case' inr=>
    have g: ∀j v,(qap L (.slice aa L.atom.args.length ak))[j]?=some v->wr.cell? ⟨b,off+m*7+j,none⟩=some v:=fun j v h=>ao.o.v.2.cell (a9 j v h) R;have d0:=g 0 _ rfl;have d1:=g 1 _ rfl;have d2:=g 2 _ rfl;have d3:=g 3 _ rfl;have d4:=g 4 _ rfl;have d5:=g 5 _ rfl;have d6:=g 6 _ rfl;simp only [Nat.add_zero]at d0;have g0:=b3 0 _ rfl;have g1:=b3 1 _ rfl;have g2:=b3 2 _ rfl;have g3:=b3 3 _ rfl;have g4:=b3 4 _ rfl;have g5:=b3 5 _ rfl;have g6:=b3 6 _ rfl;simp only [zD,Nat.add_zero]at g0 g1 g2 g3 g4 g5 g6;have a4:wr.cell? ⟨Bi,0,none⟩=some (.int .i64 (m:Int)):=by rw [b1,him];congr 2;omega
    have aO:(m:Int)<r.body.length:=wA
    have bH:(0:Int)<=m:=wA
    have bF:b<wr.heap.size:=wA
    have aW:Bx<wr.heap.size:=wA
    clear b3 g a9 b1 him bn
   all_goals
    gi_wp2;refine⟨wF,rfl,(zU.2 (q3n L _ _)).mono ?_⟩;rintro e w' ⟨rfl,rfl⟩;gi_wp2;refine qo8 (fun Wr=>wE wr Wr/\Wr.heap.size=wr.heap.size+2/\Wr.heap[wr.heap.size+1]?=some (.cells (qap L (.slice aa L.atom.args.length ak)).toArray 79 (0,0))) ⟨kAl.trans kAl,wC,by simpa using qh (wr.alloc _) _⟩ ?_;rintro Wr ⟨kW,sW,bW⟩;have aD:=ao.o.keep aQ.o aP aM kW (fun _ _=>wF) (fun _ _=>wF) trivial trivial trivial;refine qk3 (gf:=204) (lb:= #[.pointer (some ⟨wr.heap.size+1,0,none⟩)]) rfl (qd6 Tryz.func204 wB rfl) (qxc n0 (wr.heap.size+1) w0 L _ b8.o cj) (fun _=>rfl) (fun _ h=>h.elim)
     ⟨bW,aD.v.2⟩ (fun X Y hv hK=>qo5 hv hK (fun k hk=>wA) wA)
     (fun k O X=> ∃p,StandsSt n0 Bx w0 rc J W.heap.size W.heap.size (W.heap.size+1) Bi (.func (.yield l) #[] #[]) (qap r.headLit (.slice ah r.head.args.length z)).toArray ((i:Int)-1) (r.off i+L.cnt k) p X/\(∀b,p b->b<Wr.heap.size∨O b)/\ ¬p (wr.heap.size+1)/\MarksAt Ds p X)
     (fun c k O X=>qtp c/\ ∃j p,j<r.stands.length/\Jx j p X/\qgo n0 Bx w0 rc X/\(∀b,p b->b<Wr.heap.size∨O b)/\MarksAt Ds p X) ?hI ?hIx ?h0 ?round ?done ?stop
    case hI=>
     rintro k O X Y ⟨p,h1,h2,h3,h4⟩ hK;exact⟨p,h1.keep aQ.o aP aM hK (fun b R=>.inl ⟨wA,fun h=>h⟩) (fun b R=>(h2 b R).elim (fun h=>.inl ⟨h,fun h=>h⟩) .inr) (.inl ⟨wA,fun h=>h⟩) (.inl ⟨wA,fun h=>h⟩) (.inl ⟨wA,fun h=>h⟩),h2,h3,
      h4.keep hK (fun D hD=>.inl ⟨by have:=ag.o D hD;omega,fun h=>h⟩) (fun _ _ h=>h)⟩
    case hIx=>
     rintro c k O X Y ⟨hc,j,p,hj,h1,h2,h3,h4⟩ hK;exact⟨hc,j,p,hj,bd.o _ _ _ _ h1 (hK.mono fun b _ R=>R.elim (fun h=>.inl ⟨by have:=h.1;omega,fun h=>h⟩) (fun h=>(h3 b h).elim (fun h=>.inl ⟨h,fun h=>h⟩) .inr)),qcu h2 hK (fun k hk=>.inl ⟨wA,fun h=>h⟩) (.inl ⟨wA,fun h=>h⟩),h3,
      h4.keep hK (fun D hD=>.inl ⟨by have:=ag.o D hD;omega,fun h=>h⟩) (fun _ _ h=>h)⟩
    case h0=>
     refine⟨p,?_,fun b R=>.inl (by have:=ao.o.o b R;omega),fun h=>by have:=ao.o.o _ h;omega,x.o.keep kW (fun _ _=>wF) (fun _ _ h=>h)⟩;rw [q5m];exact aD
    case round=>
     intro lr k O X dD dM cf hk hI hV dP;obtain⟨p,hI,am,aX,aB⟩:=hI;obtain⟨t,ht⟩: ∃t,L.terms[k]?=some t:=⟨_,zB hk⟩;have bM:L.terms.getD k default=t:=by simp [List.getD,ht]
     clear a4 b2 bt e1 d0 d1 d2 d3 d4 d5 d6 aO aD kW
     try clear g0 g1 g2 g3 g4 g5 g6 bH bF aW
     simp only [bM,TermD.val];refine qdx ?_ ht hI am aX aB hV cf bM hk bW;clear ht hI am aX aB hV cf bM hk bW;intro br a3 ai aL bg aV bU df dx dw;gi_wp2;refine⟨kAl,fun Y hY ch cR=>?_⟩;have aS:Keep (fun b=>b≠lr) X Y:=(Keep.alloc _ X _).trans hY;have nt:=hY.heap (qh X (.cells #[.bool t.var,.string t.text] 77)) (show X.heap.size≠lr from wA);have au:=a3.o.keep aQ.o aP aM aS (fun b R=>wA) (fun b R e=>(ai.o b R).elim (fun h=>wA) (fun h=>bU.o (e▸h))) wA wA wA;have a5:=bg.o.keep (O':=p) aS (fun D hD=>by have:=ag.o D hD;omega) (fun _ _ h=>h);have a7:=qo5 aV.o aS (fun k hk=>wA) wA;have f1:=qbn au.y;have f2:=qbn au.i;have f3:=qb nt 0 _ rfl;have f4:=qb nt 1 _ rfl;simp only [zD,Nat.add_zero]at f3 f4;have dl:Y.heap.size=X.heap.size+1:=by simpa using ch
     have ap:=q5n br.o;clear hY ch cR;by_cases hv:t.var=true
     ·have ad:=q2b (c:=L.cnt k) bf.o (zA.1 (qx6 br.o hv)).1;have hu:=(zA.1 (qx6 br.o hv)).2;rw [hu]at ad;have aw:=(zA.1 ad).1;have aZ:r.stands.getD (r.off i+L.cnt k) default=((i:Int)-1,t.text):=by simp [List.getD,ad]
      obtain⟨fn,tmps,assign,body,hy,hR⟩:=cG.o (r.off i+L.cnt k) p Y aw au.j au.v au.s;rw [aZ]at hy;simp only [hv,yg]at ap;refine qib ?_ hR au a5 a7 aS ap nt hu ad aw aZ;clear hR au a5 a7 aS ap nt hu ad aw aZ;intro cF bQ aU b0 dd bp dz dy aF b6 cJ;gi_wp2;refine⟨rfl,RoundIn.mono (F:=inR lr) cF.o ?_⟩;rintro e Z ⟨O',cb,aR,av,aY,aG⟩;have dO:=av.size;have al: ∀b,O' b->b<Y.heap.size->p b:=fun b R aw=>(aR b R).elim id (fun h=>wA);have bx: ∀b,O' b->b<Wr.heap.size∨O b∨(X.heap.size<=b/\O' b):=fun b R=>(aR b R).elim (fun h=>(ai.o b h).imp id .inl) (fun h=>.inr (.inr ⟨wA,R⟩));have ba:Keep (fun b=>Wr.heap.size<=b/\b<X.heap.size/\ ¬O b) Y Z:=av.mono (fun b _ h=>⟨wA,fun ho=>(ai.o b ho).elim (fun h'=>by have:=h.1;omega) h.2.2⟩);have a6:=aU.o.keep (O':=O') av (fun D hD=>⟨d.o D hD,(aU.o D hD).1⟩) (fun D hD h ho=>h (al D ho (by have:=qe (aU.o D hD).2;omega)));have a8:qjb n0 (wr.heap.size+1) w0 (qap L (.slice aa L.atom.args.length ak)).toArray Z:=⟨av.heap b0.o.1 ⟨wA,aL.o⟩,aY.2⟩;have bI: ¬O' (wr.heap.size+1):=fun h=>aL.o (al _ h wA);have u:=bQ.o;have cY:=qe u.y;have cV:=qe u.h;have cW:=qe u.i;rcases aG with ⟨rfl,aG⟩ |⟨rfl,aG⟩
      ·have bz:StandsSt n0 Bx w0 rc J W.heap.size W.heap.size (W.heap.size+1) Bi (.func (.yield l) #[] #[]) (qap r.headLit (.slice ah r.head.args.length z)).toArray ((i:Int)-1) (r.off i+L.cnt (k+1)) O' Z:=
        {j:=by rw [bp.o];exact aG,v:=aY,s:=wA,o:=fun b R=>(aR b R).elim (fun h=>by have:=u.o b h;omega) (fun h=>h.2),y:=av.heap u.y ⟨u.sy,u.ny⟩,h:=av.heap u.h ⟨u.sh,u.nh⟩,i:=av.heap u.i ⟨u.si,u.ni⟩,ny:=fun h=>u.ny (al _ h cY),nh:=fun h=>u.nh (al _ h cV),ni:=fun h=>u.ni (al _ h cW),sy:=u.sy,sh:=u.sh,si:=u.si}
       have ae:qer Wr.heap.size X.heap.size (qjb n0 (wr.heap.size+1) w0 (qap L (.slice aa L.atom.args.length ak)).toArray) O Y Z (fun aT=> ∃p,StandsSt n0 Bx w0 rc J W.heap.size W.heap.size (W.heap.size+1) Bi (.func (.yield l) #[] #[]) (qap r.headLit (.slice ah r.head.args.length z)).toArray ((i:Int)-1) (r.off i+L.cnt (k+1)) p Z/\(∀b,p b->b<Wr.heap.size∨aT b)/\ ¬p (wr.heap.size+1)/\MarksAt Ds p Z):=
        ⟨fun b=>O b∨(X.heap.size<=b/\O' b),fun b h=>.inl h,fun b h=>h.imp id (fun h=>⟨h.1,bz.o b h.2⟩),ba,a8,O',bz,bx,bI,a6⟩
       clear bz a6 a8 bI ba bx al aG u av aY cb aR;refine hd1 ?_ ae;clear ae;intro aj;gi_wp2;exact aj.o
      ·have ae:qer Wr.heap.size X.heap.size (qjb n0 (wr.heap.size+1) w0 (qap L (.slice aa L.atom.args.length ak)).toArray) O Y Z (fun aT=>qtp .ret/\ ∃j p,j<r.stands.length/\Jx j p Z/\qgo n0 Bx w0 rc Z/\(∀b,p b->b<Wr.heap.size∨aT b)/\MarksAt Ds p Z):=
        ⟨fun b=>O b∨(X.heap.size<=b/\b<Z.heap.size/\O' b),fun b h=>.inl h,fun b h=>h.imp id (fun h=>⟨h.1,h.2.1⟩),ba,a8,rfl,_,O',b6.o,aG,aY,fun b R=>(aR b R).elim (fun h=>(ai.o b h).imp id .inl) (fun h=>.inr (.inr ⟨wA,h.2,R⟩)),a6⟩
       clear a6 a8 bI ba bx al aG u av aY cb aR;refine hd1 ?_ ae;clear ae;intro aj;gi_wp2;exact aj.o
     ·have da:t.var=false:=by simpa using hv
      simp only [da,yy,Nat.add_zero,zz]at ap;have ae:qer Wr.heap.size X.heap.size (qjb n0 (wr.heap.size+1) w0 (qap L (.slice aa L.atom.args.length ak)).toArray) O Y Y (fun aT=> ∃p,StandsSt n0 Bx w0 rc J W.heap.size W.heap.size (W.heap.size+1) Bi (.func (.yield l) #[] #[]) (qap r.headLit (.slice ah r.head.args.length z)).toArray ((i:Int)-1) (r.off i+L.cnt (k+1)) p Y/\(∀b,p b->b<Wr.heap.size∨aT b)/\ ¬p (wr.heap.size+1)/\MarksAt Ds p Y):=
       ⟨O,fun b h=>h,fun b h=>.inl h,Keep.refl _ _,a7,p,by rw [ap];exact au,ai.o,aL.o,a5⟩
      clear hv au a5 a7 aS ap nt;refine hd1 ?_ ae;clear ae;intro aj;gi_wp2;refine⟨fun _ h=>(by cases h),?_⟩;gi_wp2;exact aj.o
    case done=>
     rintro D O Wd hD bw aH c6 ⟨p,hI,am,aX,aB⟩ hV;have f2:=qbn hI.i;have dG:=qe hI.i;have dm:=hI.si;rw [q7r,←bq.o]at hI;have aq:MarksAt (D::Ds) p Wd:=fun E hE=>by
      rcases zw.1 hE with rfl |hE
      ·exact⟨fun h=>(am _ h).elim (fun h=>wA) bw,aH⟩
      ·exact aB E hE
     have az:(D::Ds).Nodup:=xS.2 ⟨fun h=>by have:=ag.o D h;omega,U.o⟩;have aA: ∀E,E∈D::Ds->W.heap.size<=E:=fun E hE=>by
      rcases zw.1 hE with rfl |hE
      ·omega
      ·exact d.o E hE
     have bm:=(zA.1 bf.o).1;clear a4 b2 bt e1 d0 d1 d2 d3 d4 d5 d6 aO aD kW U d x
     try clear g0 g1 g2 g3 g4 g5 g6 bH bF aW
     refine qdx ?_ hI am aX aB hV aH aq az aA bm;clear hI am aX aB hV aH aq az aA bm;intro a3 ai aL bg aV b4 x U d aE;have cX:(i:Int)<=1099511627776:=by have:=aE.o;simp [RuleD.lits] at this;omega
     have dp:(0:Int)<=i:=wA
     gi_wp2;refine⟨⟨_,_,_,_,_,_,_,_,_,_,_,_,_,_,_,_,_,_,_,_,_,_,_,_,_,_,_,_,_,_,_,_,_,_,_,_,_,_,_,_,⟨i+1,p,Wd.heap.size,D::Ds,by have:=aE.o;omega,rfl,rfl,rfl,rfl,?_,rfl,U.o,d.o,x.o.keep kAl (fun _ _=>wF) (fun _ _ h=>h)⟩,rfl⟩,?_⟩
     ·have cQ:=a3.o.keep (C:=fun _=>True) aQ.o aP aM (Keep.alloc _ Wd (.cells #[.int .i64 (i:Int)] 3)) (fun _ _=>wF) (fun _ _=>wF) trivial trivial trivial;have hn:=qh Wd (.cells #[.int .i64 (i:Int)] 3);have he:((i+1:Nat):Int)-1=i:=by omega
      exact {cQ with i:=by rw [he];exact hn,ni:=fun h=>by have:=a3.o.o _ h;omega,si:=by omega}
     ·have h1:=qr8 (w:=wr) (q:=⟨Bi,0,none⟩) (qbn ao.o.i);have h2:=qr8 (w:=Wd.alloc (.cells #[.int .i64 (i:Int)] 3)) (q:=⟨Wd.heap.size,0,none⟩) (qbn (qh Wd _));have:=aE.o;simp [RuleD.lits]at this;simp only [Array.getD_eq_getD_getElem?,getElem?_toArray,getElem?_cons_succ,getElem?_cons_zero,Option.getD_some,h1,h2];omega
    case stop=>
     rintro D c k O Wd hD bw aH c6 hk ⟨ck,j,p,hj,cc,cg,am,aB⟩ hV;obtain rfl:c=.ret:=ck;have aq:MarksAt (D::Ds) p Wd:=fun E hE=>by
      rcases zw.1 hE with rfl |hE
      ·exact⟨fun h=>(am _ h).elim (fun h=>wA) bw,aH⟩
      ·exact aB E hE
     have az:(D::Ds).Nodup:=xS.2 ⟨fun h=>by have:=ag.o D h;omega,U.o⟩;have aA: ∀E,E∈D::Ds->W.heap.size<=E:=fun E hE=>by
      rcases zw.1 hE with rfl |hE
      ·omega
      ·exact d.o E hE
     clear a4 b2 bt e1 d0 d1 d2 d3 d4 d5 d6 aO aD kW U d x
     try clear g0 g1 g2 g3 g4 g5 g6 bH bF aW
     refine hd8 ?_ cc am hV cg aH aq az aA;clear cc am hV cg aH aq az aA;intro bR ai aV bV b4 x U d;gi_wp2;refine qgz (D::Ds) _ U.o (fun E hE=>(x.o E hE).2) (fun w' hK hs=>qcn (yt rfl _ _ _) ?_);exact⟨⟨_,rfl⟩,wA,qcu bV.o hK (fun b R h=>by have:=d.o b h;omega) (fun h=>by have:=d.o _ h;omega),p,.inr ⟨j,hj,bd.o _ _ _ _ bR.o (hK.mono fun b _ R=>R.elim (fun h h'=>by have:=d.o b h';omega) (fun h h'=>(x.o b h').1 h))⟩⟩
  ·have cU:i=r.lits.length:=by omega
   subst cU;have ad:=af;rw [q7q]at ad;have dL: ¬(((r.lits.length:Nat):Int)-1<r.body.length):=by simp [RuleD.lits]
   have cX:(r.lits.length:Int)<=1099511627777:=by simp [RuleD.lits];omega
   clear aw hi;refine hd3 ?_ af ad b3;clear af ad b3;intro ao aF dv;gi_wp2;refine qgz Ds _ U.o (fun E hE=>(x.o E hE).2) (fun w' hK hs=>qcn (yt rfl _ _ _) ?_);exact⟨⟨_,rfl⟩,wA,qcu aF.o.v hK (fun b R h=>by have:=d.o b h;omega) (fun h=>by have:=d.o _ h;omega),p,.inl (aQ.o _ _ _ _ aF.o.j (hK.mono fun b _ R=>R.elim (fun h h'=>by have:=d.o b h';omega) (fun h h'=>(x.o b h').1 h)))⟩
theorem qrp:qb2 prog 60 9 1 16:=qcl (z:=.string ⟨#[]⟩) wB wB rfl wD wD
theorem qrc (r:RuleD)(c:Option Addr)(nh g:Nat)(b:Option Addr)(h d:Nat)(w:World):Calls prog 112 #[.agg #[.string r.head.pred,.slice c nh g,.slice b h d]] w fun e w'=>
  e=.returned (.func (.func 154) #[] #[.pointer (some ⟨w.heap.size,0,none⟩)])/\w'=w.alloc (.cells (qct r (.slice c nh g) (.slice b h d)).toArray 27):=by
 go_enter Tryz.func112,Tryz.ntmps112
 go_wp2;go_ret;exact⟨rfl,rfl⟩
structure CollectSt (B n1 Bo Bm M:Nat)(w:World)(O:Nat->Prop)(ss:List ByteArray)(W:World):Prop where
 own: ∃v,W.heap[Bo]?=some (.cells #[v] 60 (0,0))/\W.ownsRow n1 9 1 v ss.length (ss.map .string)/\ ∀b,v.ownBlock=some b->O b/\B<=b
 mbox:W.heap[Bm]?=some (.cells #[.map (some M)] 175 (0,0))
 set:SetIn W M ss
 old:Keep (fun k=>k<n1) w W
theorem CollectSt.keep {B n1 c Bm M:Nat}{w:World}{O:Nat->Prop}{ss:List ByteArray}{W e:World}{C:Nat->Prop}(h:CollectSt B n1 c Bm M w O ss W)(hK:Keep C W e)
  (ho:C c) (x:C Bm) (t:C M) (u: ∀b,O b->C b) (y: ∀b,b<n1->C b):CollectSt B n1 c Bm M w O ss e:=by
 obtain⟨⟨v,l,m,g⟩,p,q,s⟩:=h;exact⟨⟨v,hK.heap l ho,qf m hK (fun b d=>u b (g b d).1),g⟩,hK.heap p x,q.keep hK t,s.trans (hK.mono fun b _ d=>y b d)⟩
theorem q64 (r:RuleD)(sh sb:Value)(w:World)(hr:RuleIn w.heap.size w sh sb r)(hN:r.stands.length<=1073741824):
  Calls prog 153 #[.agg #[.string r.head.pred,sh,sb]] w fun e w'=>
   ∃v,e=.returned v/\Keep (fun k=>k<w.heap.size) w w'/\w'.ownsRow w.heap.size 9 1 v (qa9 r.names).length ((qa9 r.names).map .string):=by
 refine qf5 Tryz.func153 rfl ?_;simp only [Tryz.ntmps153,qdy,Nat.reduceAdd,Nat.reduceSub];obtain⟨⟨ah,aa,rfl,bj,bg,am⟩,⟨ab,U,rfl,bi,bf,al⟩⟩:=id hr;have aP:= @run_makeMap prog;refine hd3 ?_ hr am al;clear hr am al;intro a5 a4 a3;gi_wp2;refine⟨wF,rfl,(zU.2 (qrc r _ _ _ _ _ _ _)).mono ?_⟩;rintro e w' ⟨rfl,rfl⟩;gi_wp2;refine qo8 (fun l=>wE w l/\l.heap.size=w.heap.size+1+1+1+1+1/\l.heap[w.heap.size+1]?=some (.cells #[.slice none 0 0] 60 (0,0))/\l.heap[w.heap.size+1+1]?=some (.map #[] 0)/\
   l.heap[w.heap.size+1+1+1]?=some (.cells #[.map (some (w.heap.size+1+1))] 175 (0,0))/\l.heap[w.heap.size+1+1+1+1]?=some (.cells (qct r (.slice ah r.head.args.length aa) (.slice ab r.body.length U)).toArray 27 (0,0)))
  ⟨(((kAl.trans kAl).trans kAl).trans kAl).trans kAl,wC,by simp only [qar,zO];simp,by simp only [qar,zO];simp,by simp only [qar,zO];simp,by simp only [qar,zO];simp⟩ ?_
 rintro l ⟨kW,sW,h1,h2,h3,h4⟩;have y:=a5.o;refine qk3 (gf:=154) (lb:= #[.pointer (some ⟨w.heap.size+1+1+1+1,0,none⟩)]) rfl (qd6 Tryz.func154 wB rfl)
  (qn7 w.heap.size (w.heap.size+1+1+1+1) l r _ _ (qan y.1 kW.mt) (qi8 y.2 kW.mt) wA wA) (fun _=>rfl) (fun _ h=>h.elim)
  ⟨h4,Keep.refl _ _⟩ (fun X Y hv hK=>qcu hv hK (fun k hk=>wA) wA)
  (fun k O X=>CollectSt l.heap.size w.heap.size (w.heap.size+1) (w.heap.size+1+1+1) (w.heap.size+1+1) w O (qa9 (r.names.take k)) X)
  (fun c k O X=>False) ?hI ?hIx ?h0 ?round ?done ?stop
 case hI=>
  intro k O X Y h hK;exact h.keep hK (.inl ⟨wA,fun h=>h⟩) (.inl ⟨wA,fun h=>h⟩) (.inl ⟨wA,fun h=>h⟩) (fun b g=>.inr g) (fun b g=>.inl ⟨wA,fun h=>h⟩)
 case hIx=>intro c k O X Y h;exact h.elim
 case h0=>exact⟨⟨_,h1,zj _ _ _ _,fun b g=>by simp [Value.ownBlock] at g⟩,h3,⟨#[],0,h2,rfl⟩,kW.mt⟩
 case round=>
  intro lr k O X bx bG aH hk hI hV bJ;obtain⟨s,hs⟩:=ex ((r.stands.getD k default).2);have aS:r.names[k]?=some s:=by simp [RuleD.names,←hs,List.getD,zB hk]
  rw [hs];clear h1 h2 h3 h4 kW aP;refine hd7 ?_ hI hs aS hV hk aH y;clear hI hs aS hV hk aH y;intro a2 bu aF aB bt aA aE;gi_wp2;refine⟨Keep.refl _ _,fun Y hY au aK=>?_⟩;have ag:=a2.o.keep hY wA wA wA (fun b g e=>aA.o (e▸g)) (fun b g=>wA);have ai:=qcu aB.o hY (fun b g=>wA) wA;obtain⟨⟨v,c1,c2,c3⟩,c4,c5,c6⟩:=id ag;have d1:=qbn c1;have a8:=qg c1 0;have d2:=qbn c4;have aO:=qis (P:=prog) (T:=175) (K:=9) (E:=4) Tryz.underlying175 Tryz.underlying9 (fun _=>wB) c5 s;have z:qa9 (r.names.take (k+1))=if s∈qa9 (r.names.take k) then qa9 (r.names.take k) else qa9 (r.names.take k)++ [s]:=by
   rw [←qic,zh,aF.o];rfl
  have x: ∀(O':Nat->Prop) (Z:World),(∀b,O b->O' b)->(∀b,O' b->O b∨(X.heap.size<=b/\b<Z.heap.size))->Keep (fun b=>l.heap.size<=b/\b<X.heap.size/\ ¬O b) Y Z->qgo w.heap.size (w.heap.size+1+1+1+1) l (qct r (.slice ah r.head.args.length aa) (.slice ab r.body.length U)).toArray Z->
    CollectSt l.heap.size w.heap.size (w.heap.size+1) (w.heap.size+1+1+1) (w.heap.size+1+1) w O' (qa9 (r.names.take (k+1))) Z->
    qer l.heap.size X.heap.size (qgo w.heap.size (w.heap.size+1+1+1+1) l (qct r (.slice ah r.head.args.length aa) (.slice ab r.body.length U)).toArray) O Y Z (fun O'=>CollectSt l.heap.size w.heap.size (w.heap.size+1) (w.heap.size+1+1+1) (w.heap.size+1+1) w O' (qa9 (r.names.take (k+1))) Z):=fun O' Z a b c d e=>⟨O',a,b,c,d,e⟩
  by_cases m:s∈qa9 (r.names.take k)
  ·have p:decide (s∈qa9 (r.names.take k))=true:=by simpa using m
   rw [p]at aO;rw [zI m]at z;have hf:=x O Y (fun _ h=>h) (fun _ h=>.inl h) (Keep.refl _ _) ai (by rw [z];exact ag);clear x ag ai c1 c2 c3 c4 c5 c6 z m p hY au aK d1 a8;refine hd1 ?_ hf;clear hf;intro an;gi_wp2;exact an.o
  ·have p:decide (s∈qa9 (r.names.take k))=false:=by simpa using m
   rw [p]at aO;rw [zF m]at z;obtain⟨W1,bH,aw,aj,bm⟩:=qit (P:=prog) (T:=175) (K:=9) (E:=4) Tryz.underlying175 Tryz.underlying9 c5 s;rw [zF m]at aw;have e1:=aj.heap c1 wA;have bp:Y.heap.size=X.heap.size:=au;have e2:W1.ownsRow w.heap.size 9 1 v (qa9 (r.names.take k)).length ((qa9 (r.names.take k)).map .string):=qf c2 aj (fun b g=>by have:=(c3 b g).2;omega);have d3:=qbn e1;have bv:=qg e1 0;have bh:(qa9 (r.names.take k)).length<=1073741824:=by have:=qm7 (r.names.take k);have:r.names.length=r.stands.length:=(by simp [RuleD.names]);simp at*;omega
   have bz:=c6.size;obtain⟨v2,W2,aR,aQ,ak,g2,R,bl,av,bF⟩:=qc3 qrp 60 e2 [.string s] rfl (by simp [Value.oneCell']) wA wA;subst bl;have t: ∀b,b<l.heap.size->some b≠v.ownBlock:=fun b g e=>by have:=(c3 b e.symm).2;omega
   have af:=ak.heap e1 (t _ wA);have e4:=qbn af;have bw:=qg af 0;have bd:(W2.setCell ⟨w.heap.size+1,0,none⟩ (.slice (some ⟨g2,0,none⟩) ((qa9 (r.names.take k)).length+1) R)).heap.size=W2.heap.size:=by simp [World.setCell]
   have aN:O g2∨X.heap.size<=g2:=av.imp (fun h=>(c3 _ h).1) (fun h=>wA);have bD:l.heap.size<=g2:=av.elim (fun h=>(c3 _ h).2) (fun h=>wA);have k3: ∀u,Keep (fun b=>b≠w.heap.size+1) W2 (W2.setCell ⟨w.heap.size+1,0,none⟩ u):=fun u=>kSc;have q:Keep (fun b=>b≠w.heap.size+1/\b≠w.heap.size+1+1/\some b≠v.ownBlock) Y (W2.setCell ⟨w.heap.size+1,0,none⟩ (.slice (some ⟨g2,0,none⟩) ((qa9 (r.names.take k)).length+1) R)):=
    ((aj.mono fun b _ h=>h.2.1).trans (ak.mono fun b _ h=>h.2.2)).trans ((k3 _).mono fun b _ h=>h.1)
   have hf:=x (fun b=>O b∨b=g2) (W2.setCell ⟨w.heap.size+1,0,none⟩ (.slice (some ⟨g2,0,none⟩) ((qa9 (r.names.take k)).length+1) R)) (fun _ h=>.inl h)
    (fun b h=>h.elim .inl (fun e=>by subst e;exact aN.imp id (fun h=>⟨h,wA⟩)))
    (q.mono fun b _ h=>⟨wA,wA,fun e=>h.2.2 (c3 b e.symm).1⟩)
    (qcu ai q (fun b g=>⟨wA,wA,t b wA⟩) ⟨wA,wA,t _ wA⟩)
    (by
     rw [z];refine⟨⟨_,qgi _ af,?_,fun b g=>?_⟩,q.heap c4 ⟨wA,wA,t _ wA⟩,(aw.keep ak (t _ wA)).keep (k3 _) wA,c6.trans (q.mono fun b _ g=>⟨wA,wA,t b wA⟩)⟩
     ·simp only [zR,length_cons,length_nil,zn,yX,xi,zF m];exact qf aQ (k3 _) (fun b g=>by simp [Value.ownBlock] at g;omega)
     ·simp only [Value.ownBlock,yb]at g;exact⟨.inr g.symm,wA⟩)
   clear x ag ai c1 c2 c3 c4 c5 c6 z m p hY au aK aw aj bm e2 aQ ak av e1 af q k3 t aN bd;refine hd2 ?_ aR hf;clear aR hf;intro aD an
   gi_wp2_with (gi_at_builtin;refine qcd rfl _ _ _ rfl rfl rfl aD.o ?_)
   exact an.o
 case done=>
  rintro D O W hD aG aJ bI hI hV;have aL:r.names.take r.stands.length=r.names:=yx (by simp [RuleD.names]);rw [aL]at hI;obtain⟨⟨v,c1,c2,c3⟩,c4,c5,c6⟩:=hI;have d1:=qbn c1;clear h1 h2 h3 h4 kW aP;refine qdx ?_ c1 c2 c3 c4 c5 c6 hV aG aJ y;clear c1 c2 c3 c4 c5 c6 hV aG aJ y;intro bq aZ a0 br bs a1 aB az aC aE;gi_wp2;refine qhp aC.o (qcn (xm rfl _ _ _) ⟨v,rfl,?_,?_⟩)
  ·exact a1.o.trans (Keep.putObj _ _ _ wA)
  ·exact qf aZ.o (Keep.putObj (C:=fun b=>b≠D) _ _ _ wC) (fun b g e=>az.o (e▸(a0.o b g).1))
 case stop=>intro D c k O W _ _ _ _ _ h;exact h.elim
theorem qpr (n:Int)(w:World):(Instr.makeMap 175 (some (.int .i64 n))).run prog w=.ok (.map (some w.heap.size)) (w.alloc (.map #[] 0)):=by
 simp [Instr.makeMap,yq,ym Tryz.underlying175,Result.andThen,asInt,asIntOf,run_newObj_alloc]
theorem q8x (n0:Nat)(v:Value)(ss:List ByteArray)(w:World)(U:qaf n0 w v ss)(hn:n0<=w.heap.size):
  Calls prog 110 #[v] w fun e w'=>e=.returned (.map (some w.heap.size))/\Keep (fun k=>k<w.heap.size) w w'/\SetIn w' w.heap.size (qa9 ss):=by
 obtain⟨a,cap,rfl,ae,ab,x⟩:=id U;have z:=fun w=>qpr ss.length w;refine hd2 ?_ U x;clear U x;intro af q
 go_enter Tryz.func110,Tryz.ntmps110
 go_wp2
 go_loopw [11] (fun i wr=> ∃k:Nat,k<=ss.length/\i=.int .i64 k/\Keep (fun j=>j<w.heap.size) w wr/\SetIn wr w.heap.size (qa9 (ss.take k))) (fun i _=>ss.length-(intOf i).toNat)
 case atStart=>exact⟨0,wA,rfl,kAl,qm9 w⟩
 case round=>
  obtain⟨k,hk,rfl,hK,g⟩:=hrel;by_cases R:k<ss.length
  ·obtain⟨s,c⟩: ∃s,ss[k]?=some s:=⟨_,zB R⟩;obtain⟨b,off,rfl,hb,he⟩:=q.o k s c;have hc:=hK.cell he (show b<w.heap.size from wA);simp only [yB]at hc;obtain⟨W1,ah,d,y,Y⟩:=qit (P:=prog) (T:=175) (K:=9) (E:=4) Tryz.underlying175 Tryz.underlying9 g s;rw [←qic,show ss.take k++ [s]=ss.take (k+1) from by rw [zh,c];rfl]at d;have u:Keep (fun j=>j<w.heap.size) w W1:=hK.trans (y.mono fun b _ h=>wA);clear he z y Y;refine hd5 ?_ hK g d u c;clear hK g d u c;intro l p t m aa;go_wp2;go_roundw
   case rel=>exact⟨k+1,wA,by go_num,m.o,t.o⟩
   case measure=>simp [intOf];omega
  ·obtain rfl:k=ss.length:=by omega
   rw [zi]at g;clear z;refine hd2 ?_ hK g;clear hK g;intro l p;go_wp2;go_ret;exact⟨rfl,l.o,p.o⟩
theorem qlh:qb2 prog 25 79 7 96:=qcl (z:=.agg #[.int .i64 0,.string ⟨#[]⟩,.slice none 0 0,.bool false,.string ⟨#[]⟩,.bool false,.string ⟨#[]⟩]) wB wB rfl wD wD
theorem qxw (l:List LitD)(k:Nat)(L:LitD)(h:l[k]?=some L):(l.take (k+1)).filter (fun L=>L.kind==1)=(l.take k).filter (fun L=>L.kind==1)++if L.kind==1 then [L] else []:=by
 rw [zh,h];simp [ye]
theorem q4i (n0:Nat)(v:Value)(body:List LitD)(w:World)(hs:qge n0 w v body)(hn:n0<=w.heap.size)(hN:(body.flatMap LitD.uses).length<=1073741824):
  Calls prog 111 #[v] w fun e w'=> ∃v',e=.returned v'/\Keep (fun k=>k<w.heap.size) w w'/\w'.ownsRow w.heap.size 9 1 v' (qcf body).length ((qcf body).map .string):=by
 obtain⟨a,cap,rfl,aV,aU,aD⟩:=id hs;refine hd2 ?_ hs aD;clear hs aD;intro aX aq;refine qbr Tryz.func111 rfl ?_;simp only [Tryz.ntmps111,qdy,Nat.reduceAdd,Nat.reduceSub];gi_wp2;gi_loopw [3,8] (fun v3 i wr=> ∃(k:Nat) (ps:List (LitD×Value)),k<=body.length/\i=.int .i64 k/\Keep (fun j=>j<w.heap.size) w wr/\wr.ownsRow w.heap.size 79 7 v3 ps.length (ps.flatMap fun p=>qap p.1 p.2)/\
   ps.map (·.1)=(body.take k).filter (fun L=>L.kind==1)/\ps.length<=k/\ ∀p,p∈ps->qak n0 w p.2 p.1.atom.args) (fun _ i _=>body.length-(intOf i).toNat)
 case atStart=>exact⟨0,[],wA,rfl,Keep.refl _ _,zj _ _ _ _,rfl,wC,wC⟩
 case round=>
  obtain⟨k,ps,hk,rfl,hK,hO,d,a5,s⟩:=hrel;have aS:=hK.size;by_cases aO:k<body.length
  ·obtain⟨L,hL⟩: ∃L,body[k]?=some L:=⟨_,zB aO⟩;obtain⟨b,off,rfl,hb,sa,ak,Y⟩:=aq.o k L hL;have g: ∀j v,(qap L sa)[j]?=some v->wr.cell? ⟨b,off+k*7+j,none⟩=some v:=fun j v h=>hK.cell (ak j v h) (show b<w.heap.size from wA);have q:=qxw body k L hL;obtain⟨z,c,rfl,aN,aK,ab⟩:=id Y;have d0:=g 0 _ rfl;have d1:=g 1 _ rfl;have d2:=g 2 _ rfl;have d3:=g 3 _ rfl;have d4:=g 4 _ rfl;have d5:=g 5 _ rfl;have d6:=g 6 _ rfl;simp only [Nat.add_zero]at d0;by_cases U:L.kind=1
   ·have al:(L.kind==1)=true:=by simp [U]
    rw [al,zI rfl,←d]at q;have m:=qf hO (Keep.alloc (fun _=>True) wr (.cells (qap L (.slice z L.atom.args.length c)).toArray 79)) (fun _ _=>wF);obtain⟨v2,W2,ao,aG,aF,g2,aB,aR,aM,a2⟩:=qc3 qlh 25 m (qap L (.slice z L.atom.args.length c)) rfl (by simp [qap,Value.oneCell']) wA (by simp;omega);subst aR;have u:Keep (fun j=>j<w.heap.size) w W2:=(hK.trans kAl).trans (aF.mono fun b hb h e=>by have:=(zE m b e.symm).1;omega);have ae: ∀p,p∈ps++ [(L,.slice z L.atom.args.length c)]->qak n0 w p.2 p.1.atom.args:=fun p hp=>by
     rcases zr.1 hp with h |h
     ·exact s p h
     ·simp only [zm]at h;subst h;exact Y
    have aH:W2.ownsRow w.heap.size 79 7 (.slice (some ⟨g2,0,none⟩) (ps.length+1) aB) (ps++ [(L,Value.slice z L.atom.args.length c)]).length ((ps++ [(L,Value.slice z L.atom.args.length c)]).flatMap fun p=>qap p.1 p.2):=by
     simpa using aG
    have ad:(ps++ [(L,Value.slice z L.atom.args.length c)]).map (·.1)=(body.take (k+1)).filter (fun L=>L.kind==1):=by rw [q];simp
    simp only [zO,qap]at ao;clear g ak ab hO m aG aF s d hL q aM U Y;refine hd6 ?_ hK ao u ae aH ad;clear hK ao u ae aH ad;intro ag az t ai ax ah
    gi_wp2_with (gi_at_builtin;refine qcd rfl _ _ _ rfl rfl rfl az.o ?_)
    go_roundw
    case rel=>exact⟨k+1,ps++ [(L,.slice z L.atom.args.length c)],wA,by go_num,t.o,ax.o,ah.o,by simp;omega,ai.o⟩
    case measure=>simp [intOf];omega
   ·have al:(L.kind==1)=false:=by simp [U]
    rw [al,zF wC,←d,yP]at q;have u:Keep (fun j=>j<w.heap.size) w (wr.alloc (.cells (qap L (.slice z L.atom.args.length c)).toArray 79)):=hK.trans kAl;have m:=qf hO (Keep.alloc (fun _=>True) wr (.cells (qap L (.slice z L.atom.args.length c)).toArray 79)) (fun _ _=>wF);clear g ak ab hO d hL U Y;refine hd5 ?_ hK u s m q;clear hK u s m q;intro ag t ay ap ar;gi_wp2;go_roundw
    case rel=>exact⟨k+1,ps,wA,by go_num,t.o,ap.o,ar.o.symm,wA,ay.o⟩
    case measure=>simp [intOf];omega
  ·obtain rfl:k=body.length:=by omega
   rw [zi]at d;have R:=quf (n0:=n0) hO wA wA (fun p hp=>qan (s p hp) (hK.mono fun b _ h=>wA));rw [d]at R;obtain⟨a3,aC,rfl,a4,a1,aL⟩:=id R;have x:RuleIn wr.heap.size wr (.slice none 0 0) (.slice a3 (body.filter fun L=>L.kind==1).length aC) ⟨⟨⟨#[]⟩,[]⟩,body.filter fun L=>L.kind==1⟩:=⟨⟨none,0,rfl,wC,by simp [maxLen],wC⟩,R⟩;have am:RuleD.names ⟨⟨⟨#[]⟩,[]⟩,body.filter fun L=>L.kind==1⟩=(body.filter fun L=>L.kind==1).flatMap LitD.uses:=by rw [qjx];simp [RuleD.headLit,LitD.uses,LitD.terms]
   have af: ∀l:List LitD,((l.filter fun L=>L.kind==1).flatMap LitD.uses).length<=(l.flatMap LitD.uses).length:=by
    intro l
    induction l with
    |nil=>simp
    |cons L l ih=>
     by_cases h:(L.kind==1)=true
     ·simp only [ye,h,yg,yF,zR];omega
     ·simp only [ye,h,yy,yF,zR,zz];omega
   have aI:(RuleD.stands ⟨⟨⟨#[]⟩,[]⟩,body.filter fun L=>L.kind==1⟩).length<=1073741824:=by
    have:=yN List.length am;simp only [RuleD.names,zL]at this;have:=af body;omega
   clear s d R af aL;refine hd5 ?_ hK hO x am aI;clear hK hO x am aI;intro ag aW y av aA;gi_wp2;refine⟨wF,rfl,(zU.2 (q64 _ _ _ _ y.o aA.o)).mono ?_⟩;rintro e w' ⟨v',rfl,aE,an⟩;rw [av.o]at an;refine hd2 ?_ aE an;clear aE an;intro au aw;gi_wp2;go_ret;exact⟨_,rfl,ag.o.trans (au.o.mono fun b _ h=>wA),aw.o.mono aS⟩
def looseOf (r:RuleD):Option ByteArray:=r.names.find? fun x=>decide (x∉qcf r.body)
def ruleAns:Option ByteArray->Value
 |none=>.tuple #[.string ⟨#[]⟩,.bool true]
 |some x=>.tuple #[.string x,.bool false]
structure RuleSt (n1 Bs Bb Bm M:Nat)(w:World)(s:List ByteArray)(W:World):Prop where
 sbox: ∃u,W.heap[Bs]?=some (.cells #[.string u] 9 (0,0))
 bbox: ∃u,W.heap[Bb]?=some (.cells #[.bool u] 4 (0,0))
 mbox:W.heap[Bm]?=some (.cells #[.map (some M)] 175 (0,0))
 set:SetIn W M s
 old:Keep (fun k=>k<n1) w W
theorem RuleSt.keep {n1 Bs g Bm M:Nat}{w:World}{s:List ByteArray}{W l:World}{C:Nat->Prop}(h:RuleSt n1 Bs g Bm M w s W)(hK:Keep C W l)
  (m:C Bs) (p:C g) (q:C Bm) (t:C M) (x: ∀b,b<n1->C b):RuleSt n1 Bs g Bm M w s l:=by
 obtain⟨⟨u,a⟩,⟨y,b⟩,c,d,e⟩:=h;exact⟨⟨u,hK.heap a m⟩,⟨y,hK.heap b p⟩,hK.heap c q,d.keep hK t,e.trans (hK.mono fun b _ v=>x b v)⟩
theorem rule_any (r:RuleD)(sh sb:Value)(w:World)(hr:RuleIn w.heap.size w sh sb r)(hN:(r.body.flatMap LitD.uses).length<=1073741824):
  Calls prog 58 #[.agg #[.string r.head.pred,sh,sb]] w fun e w'=>e=.returned (ruleAns (looseOf r))/\Keep (fun k=>k<w.heap.size) w w':=by
 refine qf5 Tryz.func58 rfl ?_;simp only [Tryz.ntmps58,qdy,Nat.reduceAdd,Nat.reduceSub];obtain⟨⟨ah,t,rfl,bx,bv,ao⟩,⟨ab,q,rfl,bw,bu,an⟩⟩:=id hr;have aw:= @run_makeMap prog;refine hd3 ?_ hr ao an;clear hr ao an;intro aM bj bi;gi_wp2;refine⟨wF,rfl,qww (fun W0=>wE w W0/\W0.heap.size=w.heap.size+1+1+1/\W0.heap[w.heap.size]?=some (.cells (qct r (.slice ah r.head.args.length t) (.slice ab r.body.length q)).toArray 27 (0,0))/\
   W0.heap[w.heap.size+1]?=some (.cells #[.string ⟨#[]⟩] 9 (0,0))/\W0.heap[w.heap.size+1+1]?=some (.cells #[.bool false] 4 (0,0)))
   ⟨(kAl.trans kAl).trans kAl,wC,by simp only [qar,zO,xG];simp [qct],by simp only [qar,zO,xG];simp [qct],by simp only [qar,zO,xG];simp [qct]⟩ ?_⟩
 rintro W0 ⟨k0,s0,a1,a2,a3⟩;have ax:=aM.o.keep k0.mt;refine(zU.2 (q4i w.heap.size _ _ W0 ax.2 wA hN)).mono ?_;rintro e W1 ⟨v1,rfl,k1,o1⟩;have au:(qcf r.body).length<=1073741824:=by
  refine zW (qm7 _) (zW ?_ hN);have aY: ∀l:List LitD,((l.filter fun L=>L.kind==1).flatMap LitD.uses).length<=(l.flatMap LitD.uses).length:=by
   intro l
   induction l with
   |nil=>simp
   |cons L l ih=>
    by_cases h:(L.kind==1)=true
    ·simp only [ye,h,yg,yF,zR];omega
    ·simp only [ye,h,yy,yF,zR,zz];omega
  exact aY _
 have aZ:=qbj o1 au;have z1:=k1.size;clear o1;refine hd8 ?_ ax k0 a1 a2 a3 k1 aZ au;clear ax k0 a1 a2 a3 k1 aZ au;intro bJ bl ba bb bc ag aO bI;gi_wp2;refine⟨wF,rfl,(zU.2 (q8x _ _ _ W1 aO.o (zG _))).mono ?_⟩;rintro e y ⟨rfl,k2,hS⟩;have z2:=k2.size;have b1:=k2.heap (ag.o.heap ba.o wA) wA;have b2:=k2.heap (ag.o.heap bb.o wA) wA;have b3:=k2.heap (ag.o.heap bc.o wA) wA;have c0:=qb b1 0 _ rfl;have c1:=qb b1 1 _ rfl;have c2:=qb b1 2 _ rfl;simp only [zD,Nat.add_zero]at c0 c1 c2;have kk:Keep (fun k=>k<w.heap.size) w y:=(bl.o.mt.trans (ag.o.mono fun b _ h=>wA)).trans (k2.mono fun b _ h=>wA);refine hd6 ?_ b1 b2 b3 kk k2 hS;clear b1 b2 b3 kk k2 hS;intro bR bd bf aN bV aL;have cc:w.heap.size<y.heap.size:=wA
 gi_wp2;refine⟨wF,rfl,(zU.2 (qrc r _ _ _ _ _ _ _)).mono ?_⟩;rintro e w' ⟨rfl,rfl⟩;gi_wp2;refine qo8 (fun R=>wE y R/\R.heap.size=y.heap.size+1+1/\R.heap[y.heap.size]?=some (.cells #[.map (some W1.heap.size)] 175 (0,0))/\
   R.heap[y.heap.size+1]?=some (.cells (qct r (.slice ah r.head.args.length t) (.slice ab r.body.length q)).toArray 27 (0,0)))
  ⟨kAl.trans kAl,wC,by simp only [qar,zO,xG];simp [qct],by simp only [qar,zO,xG];simp [qct]⟩ ?_
 rintro R ⟨kW,sW,h1,h2⟩;have p:=aM.o.keep (w':=R) (aN.o.trans kW.mt);have hM:=SetIn.lt aL.o;have u:RuleSt w.heap.size (w.heap.size+1) (w.heap.size+1+1) y.heap.size W1.heap.size w (qcf r.body) R:=by
  refine⟨⟨_,kW.heap bd.o wF⟩,⟨_,kW.heap bf.o wF⟩,h1,?_,aN.o.trans kW.mt⟩;have:=aL.o.keep kW trivial
  rwa [qcf,qzp] at this
 refine qk3 (gf:=154) (lb:= #[.pointer (some ⟨y.heap.size+1,0,none⟩)]) rfl (qd6 Tryz.func154 wB rfl)
  (qn7 w.heap.size (y.heap.size+1) R r _ _ p.1 p.2 wA wA) (fun _=>rfl) (fun _ h=>h.elim)
  ⟨h2,Keep.refl _ _⟩ (fun X Y hv hK=>qcu hv hK (fun k hk=>wA) wA)
  (fun k O X=>RuleSt w.heap.size (w.heap.size+1) (w.heap.size+1+1) y.heap.size W1.heap.size w (qcf r.body) X/\ ∀x,x∈r.names.take k->x∈qcf r.body)
  (fun c k O X=>qtp c/\Keep (fun k=>k<w.heap.size) w X/\ ∃x,looseOf r=some x/\X.heap[w.heap.size+1]?=some (.cells #[.string x] 9 (0,0))/\X.heap[w.heap.size+1+1]?=some (.cells #[.bool false] 4 (0,0))) ?hI ?hIx ?h0 ?round ?done ?stop
 case hI=>
  rintro k O X Y ⟨h,hh⟩ hK;exact⟨h.keep hK (.inl ⟨wA,fun h=>h⟩) (.inl ⟨wA,fun h=>h⟩) (.inl ⟨wA,fun h=>h⟩) (.inl ⟨wA,fun h=>h⟩) (fun b hb=>.inl ⟨wA,fun h=>h⟩),hh⟩
 case hIx=>
  rintro c k O X Y ⟨hc,hk,x,h1,h2,h3⟩ hK;exact⟨hc,hk.trans (hK.mono fun b _ hb=>.inl ⟨wA,fun h=>h⟩),x,h1,hK.heap h2 (.inl ⟨wA,fun h=>h⟩),hK.heap h3 (.inl ⟨wA,fun h=>h⟩)⟩
 case h0=>exact⟨u,wC⟩
 case round=>
  intro lr k O X b7 cb aR hk hI hV cd;obtain⟨s,hs⟩:=ex ((r.stands.getD k default).2);have aX:r.names[k]?=some s:=by simp [RuleD.names,←hs,List.getD,zB hk]
  rw [hs];clear h1 h2 kW aw c0 c1 c2 u;refine hd7 ?_ hI hs aX hV hk aR p;clear hI hs aX hV hk aR p;intro af bU al aq bS bH ak;gi_wp2;refine⟨Keep.refl _ _,fun Y hY aT aS=>?_⟩;have ai:=af.o.1.keep hY wA wA wA wA (fun b hb=>wA);have aj:=qcu aq.o hY (fun b hb=>wA) wA;obtain⟨⟨us,p1⟩,⟨ub,p2⟩,p3,p4,p5⟩:=id ai;have d2:=qbn p3;have aV:=qis (P:=prog) (T:=175) (K:=9) (E:=4) Tryz.underlying175 Tryz.underlying9 (fun _=>wB) p4 s;have ay:r.names.take (k+1)=r.names.take k++ [s]:=by rw [zh,al.o];rfl
  by_cases z:s∈qcf r.body
  ·have m:decide (s∈qcf r.body)=true:=by simpa using z
   rw [m]at aV;have hf:qer R.heap.size X.heap.size (qgo w.heap.size (y.heap.size+1) R (qct r (.slice ah r.head.args.length t) (.slice ab r.body.length q)).toArray) O Y Y
     (fun O'=>RuleSt w.heap.size (w.heap.size+1) (w.heap.size+1+1) y.heap.size W1.heap.size w (qcf r.body) Y/\ ∀x,x∈r.names.take (k+1)->x∈qcf r.body):=
    ⟨O,fun _ h=>h,fun _ h=>.inl h,Keep.refl _ _,aj,ai,fun x hx=>by
     rw [ay]at hx;rcases zr.1 hx with h |h
     ·exact af.o.2 x h
     ·simp at h;subst h;exact z⟩
   clear ai aj p1 p2 p3 p4 p5 ay z m hY aT aS;refine hd1 ?_ hf;clear hf;intro ar;gi_wp2;exact ar.o
  ·have m:decide (s∈qcf r.body)=false:=by simpa using z
   rw [m]at aV;have d:looseOf r=some s:=by
    exact q7s (fun x hx=>by simpa using af.o.2 x hx) al.o (by simpa using z)
   have d3:=qbn p1;have br:=qg p1 0;have d4:=qbn p2;have bs:=qg p2 0;have k3:Keep (fun b=>b≠w.heap.size+1/\b≠w.heap.size+1+1) Y ((Y.setCell ⟨w.heap.size+1,0,none⟩ (.string s)).setCell ⟨w.heap.size+1+1,0,none⟩ (.bool false)):=(kSc).trans (kSc);have hf:qer R.heap.size X.heap.size (qgo w.heap.size (y.heap.size+1) R (qct r (.slice ah r.head.args.length t) (.slice ab r.body.length q)).toArray) O Y ((Y.setCell ⟨w.heap.size+1,0,none⟩ (.string s)).setCell ⟨w.heap.size+1+1,0,none⟩ (.bool false))
     (fun O'=>qtp .ret/\Keep (fun k=>k<w.heap.size) w ((Y.setCell ⟨w.heap.size+1,0,none⟩ (.string s)).setCell ⟨w.heap.size+1+1,0,none⟩ (.bool false))/\ ∃x,looseOf r=some x/\((Y.setCell ⟨w.heap.size+1,0,none⟩ (.string s)).setCell ⟨w.heap.size+1+1,0,none⟩ (.bool false)).heap[w.heap.size+1]?=some (.cells #[.string x] 9 (0,0))/\
      ((Y.setCell ⟨w.heap.size+1,0,none⟩ (.string s)).setCell ⟨w.heap.size+1+1,0,none⟩ (.bool false)).heap[w.heap.size+1+1]?=some (.cells #[.bool false] 4 (0,0))):=
    ⟨O,fun _ h=>h,fun _ h=>.inl h,k3.mono (fun b _ h=>wA),qcu aj k3 (fun b hb=>wA) wA,rfl,p5.trans (k3.mono fun b _ h=>wA),s,d,
     (Keep.setCell (C:=fun b=>b≠w.heap.size+1+1) _ _ _ wC).heap (qgi _ p1) wA,qgi _ ((Keep.setCell (C:=fun b=>b≠w.heap.size+1) _ _ _ wC).heap p2 wA)⟩
   have bt:w.heap.size+1<Y.heap.size:=qe p1;clear ai aj p1 p2 p3 p4 p5 ay z m hY aT aS k3;refine hd2 ?_ hf d;clear hf d;intro ar g;gi_wp2;exact ar.o
 case done=>
  rintro D O W hD aa ad bD ⟨hI,ae⟩ hV;have d:looseOf r=none:=by
   unfold looseOf;rw [yn];intro x hx;have:=ae x (by rw [yx (by simp [RuleD.names])];exact hx)
   simpa using this
  obtain⟨⟨us,p1⟩,⟨ub,p2⟩,p3,p4,p5⟩:=id hI;have d3:=qbn p1;have br:=qg p1 0;have d4:=qbn p2;have bs:=qg p2 0;have bt:w.heap.size+1<W.heap.size:=qe p1;clear h1 h2 kW aw c0 c1 c2 u;refine qhw ?_ hI p1 p2 p3 p4 p5 hV aa ad p ae d;clear hI p1 p2 p3 p4 p5 hV aa ad p ae d;intro af bm bn bW b0 bo aq aK U ak bh g;gi_wp2;have k3:Keep (fun b=>b≠w.heap.size+1/\b≠w.heap.size+1+1) W ((W.setCell ⟨w.heap.size+1,0,none⟩ (.string ⟨#[]⟩)).setCell ⟨w.heap.size+1+1,0,none⟩ (.bool true)):=(kSc).trans (kSc);refine qgz [D] _ wC (fun E hE=>by simp at hE;subst hE;exact k3.heap U.o wA) (fun w' hK hs=>?_);have q1:=qbn (hK.heap ((Keep.setCell (C:=fun b=>b≠w.heap.size+1+1) _ _ _ wC).heap (qgi (.string ⟨#[]⟩) bm.o) wA) (by simp;omega));have q2:=qbn (hK.heap (qgi (.bool true) ((Keep.setCell (C:=fun b=>b≠w.heap.size+1) _ _ (.string ⟨#[]⟩) wC).heap bn.o wA)) (by simp;omega));refine qcn (v:=.tuple #[.string ⟨#[]⟩,.bool true]) (by simp [results,Tryz.results58,go_sem,q1,q2]) ⟨by rw [g.o];rfl,?_⟩;exact(bo.o.trans (k3.mono fun b _ h=>wA)).trans (hK.mono fun b _ h=>by simp;omega)
 case stop=>
  rintro D c k O W hD aa ad bD hk ⟨aW,hK,x,hl,q1,q2⟩ hV;obtain rfl:c=.ret:=aW;clear h1 h2 kW aw c0 c1 c2 u;refine hd8 ?_ hK q1 q2 hV aa ad p hl;clear hK q1 q2 hV aa ad p hl;intro bg bp bq aq aK U ak bk;gi_wp2;refine qgz [D] _ wC (fun E hE=>by simp at hE;subst hE;exact U.o) (fun w' hK hs=>?_);have q1:=qbn (hK.heap bp.o (by simp;omega));have q2:=qbn (hK.heap bq.o (by simp;omega));refine qcn (v:=.tuple #[.string x,.bool false]) (by simp [results,Tryz.results58,go_sem,q1,q2]) ⟨by rw [bk.o];rfl,?_⟩;exact bg.o.trans (hK.mono fun b _ h=>by simp;omega)
end Go.Proofs.S12
namespace Go.Ink
abbrev Asg:=ByteArray->Option ByteArray
def qb1:Asg:=fun _=>none
def qab (a:Asg)(t:TermD):Option ByteArray:=if t.var then a t.text else some t.text
def qa2 (a:Asg)(t:TermD):ByteArray:=(qab a t).getD ⟨#[]⟩
def qfs (a:Asg)(x v:ByteArray):Asg:=fun y=>if y=x then some v else a y
def qbb (a:Asg):List TermD->List ByteArray->Option Asg
 | [],[]=>some a
 |t::ts,x::xs=>match qab a t with
  |some y=>if y=x then qbb a ts xs else none
  |none=>qbb (qfs a t.text x) ts xs
 |_,_=>none
def ExtA (a b:Asg):Prop:= ∀x v,a x=some v->b x=some v
def qin (a b:Asg)(xs:List ByteArray):Prop:= ∀x,(∃v,b x=some v)↔(∃v,a x=some v)∨x∈xs
def qal (ts:List TermD):List ByteArray:=(ts.filter (·.var)).map (·.text)
theorem ExtA.refl (a:Asg):ExtA a a:=fun _ _ h=>h
theorem ExtA.trans {a b c:Asg}(h:ExtA a b)(g:ExtA b c):ExtA a c:=fun x v d=>g x v (h x v d)
theorem qkd {a b:Asg}(h:ExtA a b){t:TermD}{y:ByteArray}(c:qab a t=some y):qab b t=some y:=by
 unfold qab at c⊢;cases d:t.var with
 |true=>rw [d] at c;simp only [yg] at c⊢;exact h _ _ c
 |false=>rw [d] at c;simpa using c
theorem qn8 {a:Asg}{t:TermD}(h:qab a t=none):t.var=true/\a t.text=none:=by
 unfold qab at h;cases b:t.var with
 |true=>rw [b] at h;exact⟨rfl,by simpa using h⟩
 |false=>rw [b] at h;cases h
theorem qv4 {a:Asg}{x v:ByteArray}(h:a x=none):ExtA a (qfs a x v):=fun y w b=>by
 unfold qfs;by_cases e:y=x
 ·subst e;rw [h] at b;cases b
 ·rw [zF e];exact b
theorem qru (a:Asg)(x v:ByteArray):qfs a x v x=some v:=by unfold qfs;rw [zI rfl]
theorem qfh {ts:List TermD}: ∀{a a':Asg} {xs:List ByteArray},qbb a ts xs=some a'->ExtA a a'/\qin a a' (qal ts)/\ts.map (qab a')=xs.map some:=by
 induction ts with
 |nil=>
  intro a a' xs h;cases xs with
  |nil=>cases h;exact⟨ExtA.refl _,fun x=>by simp [qal],rfl⟩
  |cons x xs=>cases h
 |cons t ts ih=>
  intro a a' xs h;cases xs with
  |nil=>cases h
  |cons x xs=>
   unfold qbb at h;split at h
   ·rename_i y hy;split at h
    ·rename_i he;subst he;obtain⟨c,d,g⟩:=ih h;refine⟨c,fun z=>?_,?_⟩
     ·rw [d z];unfold qal;rw [ye];by_cases b:t.var=true
      ·rw [zI b,yX,zw];constructor
       ·rintro(h |h)
        ·exact .inl h
        ·exact .inr (.inr h)
       ·rintro(h |rfl |h)
        ·exact .inl h
        ·refine .inl ⟨y,?_⟩;unfold qab at hy;rw [zI b]at hy;exact hy
        ·exact .inr h
      ·rw [zF b]
     ·rw [yX,yX,g,qkd c hy]
    ·cases h
   ·rename_i hy;obtain⟨b,l⟩:=qn8 hy;obtain⟨c,d,g⟩:=ih h;refine⟨(qv4 l).trans c,fun z=>?_,?_⟩
    ·rw [d z];unfold qal;rw [ye,zI b,yX,zw];unfold qfs;by_cases e:z=t.text
     ·subst e;simp
     ·rw [zF e];simp [e]
    ·rw [yX,yX,g];have:qab a' t=some x:=by
      unfold qab;rw [zI b];exact c _ _ (qru _ _ _)
     rw [this]
theorem qv5 {ts:List TermD}: ∀{a b:Asg} {xs:List ByteArray},ExtA a b->ts.map (qab b)=xs.map some-> ∃a',qbb a ts xs=some a'/\ExtA a' b:=by
 induction ts with
 |nil=>
  intro a b xs c h;cases xs with
  |nil=>exact⟨a,rfl,c⟩
  |cons x xs=>cases h
 |cons t ts ih=>
  intro a b xs c h;cases xs with
  |nil=>cases h
  |cons x xs=>
   rw [yX,yX]at h;injection h with h1 h2
   unfold qbb;split
   ·rename_i y hy;have:=qkd c hy;rw [h1]at this;cases this;rw [zI rfl];exact ih c h2
   ·rename_i hy;obtain⟨g,l⟩:=qn8 hy;refine ih ?_ h2;intro z v d;unfold qfs at d;by_cases e:z=t.text
    ·subst e;rw [zI rfl]at d;cases d;unfold qab at h1;rw [zI g]at h1;exact h1
    ·rw [zF e]at d;exact c z v d
theorem qv6 {a b c:Asg}{xs:List ByteArray}(g:ExtA b c)(h:qin a b xs)(l:qin a c xs):b=c:=by
 funext x
 cases d:b x with
 |some v=>exact(g x v d).symm
 |none=>
  cases m:c x with
  |none=>rfl
  |some v=>
   obtain⟨w,e⟩:=(h x).2 ((l x).1 ⟨v,m⟩);rw [d]at e;cases e
structure qa7 where
 pos:Nat->List (List ByteArray)
 neg:Nat->List (List ByteArray)
def qgf (J:qa7)(body:List LitD)(b:Asg)(i:Nat):Prop:=
 if (body.getD i default).kind=3 then qab b (body.getD i default).left≠qab b (body.getD i default).right
 else if (body.getD i default).kind=2 then (body.getD i default).atom.args.map (qa2 b)∉J.neg i
 else∃t,t∈J.pos i/\(body.getD i default).atom.args.map (qab b)=t.map some
def qbe (J:qa7)(body:List LitD):List Nat->Asg->List Asg
 | [],a=> [a]
 |i::is,a=>
  if (body.getD i default).kind=3 then (if qab a (body.getD i default).left=qab a (body.getD i default).right then [] else qbe J body is a)
  else if (body.getD i default).kind=2 then (if (body.getD i default).atom.args.map (qa2 a)∈J.neg i then [] else qbe J body is a)
  else (J.pos i).flatMap fun t=>match qbb a (body.getD i default).atom.args t with
   |some a'=>qbe J body is a'
   |none=> []
def q8 (body:List LitD)(is:List Nat):List ByteArray:=is.flatMap fun i=>if (body.getD i default).kind=3∨(body.getD i default).kind=2 then [] else qal (body.getD i default).atom.args
theorem qdg (body:List LitD)(i:Nat):q8 body [i]=if (body.getD i default).kind=3∨(body.getD i default).kind=2 then [] else qal (body.getD i default).atom.args:=by
 unfold q8;rw [yF,xn,yP]
def qv7 (a:Asg)(t:TermD):Prop:= ∃y,qab a t=some y
def qg5 (body:List LitD):List Nat->(ByteArray->Prop)->Prop
 | [],_=>True
 |i::is,K=>
  ((body.getD i default).kind=3-> ∀t,t=(body.getD i default).left∨t=(body.getD i default).right->t.var=true->K t.text)/\
  ((body.getD i default).kind=2-> ∀t,t∈(body.getD i default).atom.args->t.var=true->K t.text)/\
  qg5 body is (fun x=>K x∨x∈q8 body [i])
theorem qg6 {a b:Asg}{t:TermD}(h:qv7 a t)(d:ExtA a b):qab b t=qab a t:=by
 obtain⟨y,c⟩:=h;rw [c];exact qkd d c
theorem q4j {a b c:Asg}{xs d:List ByteArray}(h:qin a b xs)(g:qin b c d):qin a c (xs++d):=fun x=>by
 rw [g x,h x,zr,or_assoc]
theorem qlm {J:qa7}{body:List LitD}: ∀(is:List Nat) (a b:Asg),qg5 body is (fun x=> ∃v,a x=some v)->
  (b∈qbe J body is a↔ExtA a b/\qin a b (q8 body is)/\ ∀i,i∈is->qgf J body b i):=by
 intro is
 induction is with
 |nil=>
  intro a b _;unfold qbe;rw [zm];constructor
  ·rintro rfl;exact⟨ExtA.refl _,fun x=>by simp [q8],fun i h=>by cases h⟩
  ·rintro⟨h1,c,-⟩;exact(qv6 (a:=a) (xs:= []) h1 (fun x=>wC) c).symm
 |cons i is ih=>
  intro a b hw;obtain⟨w3,w2,wr⟩:=hw;have hp:q8 body (i::is)=q8 body [i]++q8 body is:=by unfold q8;simp
  have q: ∀t:TermD,(t.var=true-> ∃v,a t.text=some v)->qv7 a t:=fun t h=>by
   unfold qv7 qab;cases hv:t.var with
   |true=>simpa using h hv
   |false=>exact⟨_,rfl⟩
  unfold qbe;by_cases l:(body.getD i default).kind=3
  ·have g:q8 body [i]= []:=by rw [qdg,zI (.inl l)]
   have s:qg5 body is (fun x=> ∃v,a x=some v):=by simpa [g] using wr
   rw [zI l,hp,g,nil_append];have kl:=q _ (w3 l _ (.inl rfl));have kr:=q _ (w3 l _ (.inr rfl));split
   ·rename_i he;constructor
    ·intro h;cases h
    ·rintro⟨h1,-,c⟩;have:=c i (yJ ..);unfold qgf at this;rw [zI l,qg6 kl h1,qg6 kr h1]at this;exact absurd he this
   ·rename_i he;rw [ih a b s];constructor
    ·rintro⟨h1,c,h4⟩;refine⟨h1,c,fun k d=>?_⟩;rcases zw.1 d with rfl |d
     ·unfold qgf;rw [zI l,qg6 kl h1,qg6 kr h1];exact he
     ·exact h4 k d
    ·rintro⟨h1,c,h4⟩;exact⟨h1,c,fun k d=>h4 k (yD _ d)⟩
  ·by_cases c:(body.getD i default).kind=2
   ·have g:q8 body [i]= []:=by rw [qdg,zI (.inr c)]
    have s:qg5 body is (fun x=> ∃v,a x=some v):=by simpa [g] using wr
    rw [zF l,zI c,hp,g,nil_append];have ka: ∀b:Asg,ExtA a b->(body.getD i default).atom.args.map (qa2 b)=(body.getD i default).atom.args.map (qa2 a):=fun b U=>by
     refine xA fun t z=>?_;unfold qa2;rw [qg6 (q t (w2 c t z)) U]
    split
    ·rename_i he;constructor
     ·intro h;cases h
     ·rintro⟨h1,-,h4⟩;have:=h4 i (yJ ..);unfold qgf at this;rw [zF l,zI c,ka b h1]at this;exact absurd he this
    ·rename_i he;rw [ih a b s];constructor
     ·rintro⟨h1,h5,h4⟩;refine⟨h1,h5,fun k d=>?_⟩;rcases zw.1 d with rfl |d
      ·unfold qgf;rw [zF l,zI c,ka b h1];exact he
      ·exact h4 k d
     ·rintro⟨h1,h5,h4⟩;exact⟨h1,h5,fun k d=>h4 k (yD _ d)⟩
   ·have u:q8 body [i]=qal (body.getD i default).atom.args:=by rw [qdg,zF (fun h=>h.elim l c)]
    rw [zF l,zF c,hp,u,xD];rw [u]at wr;have m: ∀a' t,qbb a (body.getD i default).atom.args t=some a'->qg5 body is (fun x=> ∃v,a' x=some v):=fun a' t p=>by
     have:=(qfh p).2.1;have e:(fun x=> ∃v,a' x=some v)=fun x=>(∃v,a x=some v)∨x∈qal (body.getD i default).atom.args:=xz fun x=>propext (this x);rw [e];exact wr
    constructor
    ·rintro⟨t,z,hb⟩;split at hb
     ·rename_i a' p;obtain⟨f1,R,f3⟩:=qfh p;obtain⟨g1,g2,g3⟩:=(ih a' b (m a' t p)).1 hb;refine⟨f1.trans g1,q4j R g2,fun k d=>?_⟩;rcases zw.1 d with rfl |d
      ·unfold qgf;rw [zF l,zF c];refine⟨t,z,?_⟩;rw [←f3];refine xA fun x hx=>?_;have:qab a' x∈(body.getD k default).atom.args.map (qab a'):=mem_map_of_mem hx;rw [f3]at this;obtain⟨y,-,hy⟩:=yL.1 this;exact qg6 ⟨y,hy.symm⟩ g1
      ·exact g3 k d
     ·cases hb
    ·rintro⟨h1,h4,h5⟩;have Y:=h5 i (yJ ..);unfold qgf at Y;rw [zF l,zF c]at Y;obtain⟨t,z,hm⟩:=Y;obtain⟨a',p,U⟩:=qv5 h1 hm;refine⟨t,z,?_⟩;rw [p];refine(ih a' b (m a' t p)).2 ⟨U,fun x=>?_,fun k d=>h5 k (yD _ d)⟩;have R:=(qfh p).2.1;rw [h4 x,R x,zr,or_assoc]
theorem qkw {J:qa7}{body:List LitD}(hJ: ∀i,(J.pos i).Nodup): ∀(is:List Nat) (a:Asg),qg5 body is (fun x=> ∃v,a x=some v)->(qbe J body is a).Nodup:=by
 intro is
 induction is with
 |nil=>intro a _;unfold qbe;simp
 |cons i is ih=>
  intro a hw;obtain⟨w3,w2,wr⟩:=hw;unfold qbe;by_cases p:(body.getD i default).kind=3
  ·have d:q8 body [i]= []:=by rw [qdg,zI (.inl p)]
   rw [zI p];split
   ·exact nodup_nil
   ·exact ih a (by simpa [d] using wr)
  ·by_cases u:(body.getD i default).kind=2
   ·have d:q8 body [i]= []:=by rw [qdg,zI (.inr u)]
    rw [zF p,zI u];split
    ·exact nodup_nil
    ·exact ih a (by simpa [d] using wr)
   ·have R:q8 body [i]=qal (body.getD i default).atom.args:=by rw [qdg,zF (fun h=>h.elim p u)]
    rw [zF p,zF u];rw [R]at wr;have g: ∀a' t,qbb a (body.getD i default).atom.args t=some a'->qg5 body is (fun x=> ∃v,a' x=some v):=fun a' t m=>by
     have:=(qfh m).2.1;have e:(fun x=> ∃v,a' x=some v)=fun x=>(∃v,a x=some v)∨x∈qal (body.getD i default).atom.args:=xz fun x=>propext (this x);rw [e];exact wr
    have key: ∀t b,b∈(match qbb a (body.getD i default).atom.args t with |some a'=>qbe J body is a' |none=> [])->(body.getD i default).atom.args.map (qab b)=t.map some:=fun t b q=>by
     split at q
     ·rename_i a' m;obtain⟨f1,f2,f3⟩:=qfh m;obtain⟨g1,-,-⟩:=(qlm is a' b (g a' t m)).1 q;rw [←f3];refine xA fun x hx=>?_;have:qab a' x∈(body.getD i default).atom.args.map (qab a'):=mem_map_of_mem hx;rw [f3]at this;obtain⟨y,-,hy⟩:=yL.1 this;exact qg6 ⟨y,hy.symm⟩ g1
     ·cases q
    have s:=hJ i
    revert s
    generalize J.pos i=l;intro s
    induction l with
    |nil=>simp
    |cons t l ihl=>
     rw [xS]at s;rw [yF,xW];refine⟨?_,ihl s.2,?_⟩
     ·split
      ·rename_i a' m;exact ih a' (g a' t m)
      ·exact nodup_nil
     ·intro b q c z e;subst e;obtain⟨t2,U,z⟩:=xD.1 z;have e1:=key t b q;have Y:=key t2 b z;rw [e1]at Y;have:t=t2:=(List.map_inj_right (fun x y h=>by cases h;rfl)).1 Y;subst this;exact s.1 U
end Go.Ink
