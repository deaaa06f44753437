/- Parts of the proof. -/
import Derived.Test.YtnponcjnahicnaaGreatDoorRelMToRelN
import Derived.Deep.MidRow
set_option linter.unusedSimpArgs false
set_option linter.unusedVariables false
set_option maxRecDepth 100000
set_option maxHeartbeats 4000000
open Go.Proofs.Tryz(prog)
open List(getElem?_set length_range map_set take_zero)
namespace Go.Proofs.R4
open Go.RowKit Go.Ink
attribute [local go_sem] Oper.semAt_some
theorem MapRange.left_eq {κ ν:Type}{P:Program}{K:TypeId}{ek:κ->Value}{ev:ν->Value}{w:World}{b r cnt:Nat}{m:List (κ×ν)}{c:κ->Bool}(h:MapRange P K ek ev w b r m c cnt):w.rangeLeft b r=cnt:=by
 obtain⟨t,d,e,f,s,g,u,x,k,i,j,l,hold,p,q,rfl,v⟩:=h;simp [World.rangeLeft,g,l]
theorem qtb: ∀w:World,(zeroValue 3).run prog w=.ok (.int .i64 0) w:=fun w=>wA
def qo8 (tag:qbu)(v:Value):Prop:= ∀a n c,v=.slice (some a) n c->tag a.block=none
theorem qmk {tag:qbu}{C:Nat->Prop}{m:Nat}{w w':World}{v:Value}{t:List Int}(h:qan m w v t)(j:qo8 tag v)(hK:Keep C w w')(i: ∀b,tag b=none->b<m->C b):qan m w' v t:=by
 obtain⟨a,c,rfl,e,f,g⟩:=h;refine⟨a,c,rfl,e,f,fun k x l=>?_⟩;obtain⟨b,o,rfl,d,p⟩:=g k x l;exact⟨b,o,rfl,d,hK.cell p (i b (j _ _ _ rfl) d)⟩
theorem qxl {tag:qbu}{w:World}{B n:Nat}{ts:List (List Int)}{vD:Value}{P K:Nat}{lm:List (List Bool×Nat)}(h:qb5 tag w B n ts vD P K lm)(hl:ts.length<=134217728)(m:Nat)(v:Value)(t:List Int)(hs:qan m w v t)(hm:m<=w.heap.size)(db:okT t)(aR:qo8 tag v):
  Calls prog 93 #[.pointer (some ⟨B,0,none⟩),v] w fun e w'=>e=.returned (.tuple #[.int .i64 (qhq n ts t).1,.bool (qhq n ts t).2.1,.int .i64 (qhq n ts t).2.2])/\
   Keep (fun b=>tag b=none) w w'/\ ∃tag' vD',qb5 tag' w' B n (qj3 n ts t) vD' P K lm/\TagLe tag tag'/\TagNew tag tag' w:=by
 obtain⟨a,c,rfl,bo,eB,cW⟩:=id hs;have hB:=qe h.box;have bM:=h.n16;refine hd5 ?_ h hs cW db aR;clear h hs cW db aR;intro Xh bk d5 aI am
 go_enter Tryz.func93,Tryz.ntmps93
 go_wp2_with fail;refine(qks Xh.o.box).mono ?_;rintro e w1 ⟨rfl,bu⟩;have bu:=bu.symm;subst bu;go_wp2_with fail;refine(qqf Xh.o.box m _ t bk.o hm).mono ?_;rintro e W1 ⟨rfl,al⟩;cases aY:qc1 n t with
 |false=>
  have g:qhq n ts t=(0,false,2):=by unfold qhq;rw [aY];rfl
  have hT:qj3 n ts t=ts:=by unfold qj3;rw [g];rfl
  have hO:=Xh.o.keep al (fun _ _ _ _=>wE);clear aY;refine hd4 ?_ g hT hO al;clear g hT hO al;intro r aD dB ao;go_wp2_with fail
  go_ret3
  exact⟨by rw [r.o];try rfl,ao.o.mt,tag,vD,by rw [aD.o];exact dB.o,TagLe.refl _,TagNew.refl _ _⟩
 |true=>
  have dg:=qk9 aY;have aZ:=qdo bk.o (m:=m) al.mt (zG _);have co:t.length<=16:=xz
  have aQ:(qay t).length=16:=qg6 xz;have bJ: ∃q,keyOf prog 214 (qgu (qay t))=some q:=qo6 aQ (qm0 aI.o);obtain⟨k0,k1,k2,k3,k4,k5,k6,k7,k8,k9,R,U,X,Y,aa,ab,bO⟩: ∃k0 k1 k2 k3 k4 k5 k6 k7 k8 k9 R U X Y aa ab,qay t= [k0,k1,k2,k3,k4,k5,k6,k7,k8,k9,R,U,X,Y,aa,ab]:=by
   match h:qay t,aQ with
   | [k0,k1,k2,k3,k4,k5,k6,k7,k8,k9,R,U,X,Y,aa,ab],_=>exact⟨k0,k1,k2,k3,k4,k5,k6,k7,k8,k9,R,U,X,Y,aa,ab,rfl⟩
  have c0:qgu (qay t)=.agg #[.int .i64 k0,.int .i64 k1,.int .i64 k2,.int .i64 k3,.int .i64 k4,.int .i64 k5,.int .i64 k6,.int .i64 k7,.int .i64 k8,.int .i64 k9,.int .i64 R,.int .i64 U,.int .i64 X,.int .i64 Y,.int .i64 aa,.int .i64 ab]:=by rw [bO];rfl
  have z1:=al.size;clear aQ bO;refine hd6 ?_ al aZ bJ c0 aY dg;clear al aZ bJ c0 aY dg;intro ao an aG aH aJ bF;go_wp2_with fail;refine(ql9 m _ t W1 an.o xz co).mono ?_;rintro e W2 ⟨rfl,a2⟩
  replace a2:Keep (fun b=>b<w.heap.size) w W2:=ao.o.mt.trans (a2.mono fun b _ h=>xz)
  obtain⟨W0,cd⟩:=ex (W2.alloc (.cells #[.int .i64 0,.int .i64 0,.int .i64 0,.int .i64 0,.int .i64 0,.int .i64 0,.int .i64 0,.int .i64 0,.int .i64 0,.int .i64 0,.int .i64 0,.int .i64 0,.int .i64 0,.int .i64 0,.int .i64 0,.int .i64 0] 214));obtain⟨nb,cl⟩:=ex (W2.heap.size);have n1:W0.heap[nb]?=some (.cells #[.int .i64 0,.int .i64 0,.int .i64 0,.int .i64 0,.int .i64 0,.int .i64 0,.int .i64 0,.int .i64 0,.int .i64 0,.int .i64 0,.int .i64 0,.int .i64 0,.int .i64 0,.int .i64 0,.int .i64 0,.int .i64 0] 214 (0,0)):=by rw [←cd,←cl];exact qh _ _
  have ak:Keep (fun b=>b<w.heap.size) w W0:=by rw [←cd];exact a2.trans kAl
  have s0:nb<W0.heap.size:=qe n1;have dZ:w.heap.size<=nb:=by rw [←cl];exact a2.size
  have z0:=qb n1 0 _ rfl;have f0:=qg n1 0;have z1:=qb n1 1 _ rfl;have f1:=qg n1 1;have z2:=qb n1 2 _ rfl;have f2:=qg n1 2;have z3:=qb n1 3 _ rfl;have f3:=qg n1 3;have z4:=qb n1 4 _ rfl;have f4:=qg n1 4;have z5:=qb n1 5 _ rfl;have f5:=qg n1 5;have z6:=qb n1 6 _ rfl;have f6:=qg n1 6;have z7:=qb n1 7 _ rfl;have f7:=qg n1 7;have z8:=qb n1 8 _ rfl;have f8:=qg n1 8;have z9:=qb n1 9 _ rfl;have f9:=qg n1 9;have dp:=qb n1 10 _ rfl;have dD:=qg n1 10;have dq:=qb n1 11 _ rfl;have dE:=qg n1 11;have dr:=qb n1 12 _ rfl;have dF:=qg n1 12;have ds:=qb n1 13 _ rfl;have dG:=qg n1 13;have dt:=qb n1 14 _ rfl;have dH:=qg n1 14;have du:=qb n1 15 _ rfl;have dI:=qg n1 15;simp only [zD]at z0 z1 z2 z3 z4 z5 z6 z7 z8 z9 dp dq dr ds dt du;rw [aH.o];clear a2;refine hd2 ?_ n1 ak;clear n1 ak;intro cO aK;go_wp2_with fail;refine qxj (fun W=>W.heap[nb]?=some (.cells #[.int .i64 k0,.int .i64 k1,.int .i64 k2,.int .i64 k3,.int .i64 k4,.int .i64 k5,.int .i64 k6,.int .i64 k7,.int .i64 k8,.int .i64 k9,.int .i64 R,.int .i64 U,.int .i64 X,.int .i64 Y,.int .i64 aa,.int .i64 ab] 214 (0,0))/\Keep (fun k=>k<w.heap.size) w W) (w:=qgk nb [.int .i64 k0,.int .i64 k1,.int .i64 k2,.int .i64 k3,.int .i64 k4,.int .i64 k5,.int .i64 k6,.int .i64 k7,.int .i64 k8,.int .i64 k9,.int .i64 R,.int .i64 U,.int .i64 X,.int .i64 Y,.int .i64 aa,.int .i64 ab] 0 W0) ⟨qgl [.int .i64 k0,.int .i64 k1,.int .i64 k2,.int .i64 k3,.int .i64 k4,.int .i64 k5,.int .i64 k6,.int .i64 k7,.int .i64 k8,.int .i64 k9,.int .i64 R,.int .i64 U,.int .i64 X,.int .i64 Y,.int .i64 aa,.int .i64 ab] cO.o rfl,aK.o.trans ((qeh _ _ _ _).mono (fun b _ h=>xz))⟩ ?_;clear z0 z1 z2 z3 z4 z5 z6 z7 z8 z9 dp dq dr ds dt du f0 f1 f2 f3 f4 f5 f6 f7 f8 f9 dD dE dF dG dH dI cO aK s0 cl cd ao an;rintro W3 ⟨hq,dl⟩;obtain⟨Wd,cg⟩:=ex (W3.drew);have a3:Keep (fun k=>k<w.heap.size) w Wd:=by rw [←cg];exact dl.trans kDr
  have d:Wd.heap[nb]?=some (.cells #[.int .i64 k0,.int .i64 k1,.int .i64 k2,.int .i64 k3,.int .i64 k4,.int .i64 k5,.int .i64 k6,.int .i64 k7,.int .i64 k8,.int .i64 k9,.int .i64 R,.int .i64 U,.int .i64 X,.int .i64 Y,.int .i64 aa,.int .i64 ab] 214 (0,0)):=by rw [←cg];exact hq
  have hd:=Xh.o.keep a3 (fun b T hb bo=>bo);have r0:=qb d 0 _ rfl;have r1:=qb d 1 _ rfl;have r2:=qb d 2 _ rfl;have r3:=qb d 3 _ rfl;have r4:=qb d 4 _ rfl;have r5:=qb d 5 _ rfl;have r6:=qb d 6 _ rfl;have r7:=qb d 7 _ rfl;have r8:=qb d 8 _ rfl;have r9:=qb d 9 _ rfl;have av:=qb d 10 _ rfl;have aw:=qb d 11 _ rfl;have ax:=qb d 12 _ rfl;have ay:=qb d 13 _ rfl;have az:=qb d 14 _ rfl;have aA:=qb d 15 _ rfl;simp only [zD]at r0 r1 r2 r3 r4 r5 r6 r7 r8 r9 av aw ax ay az aA;have b2:=qb hd.box 2 _ rfl;have b3:=qb hd.box 3 _ rfl;simp only [zD]at b2 b3;have aj:=qdn (P:=prog) Tryz.underlying206 qki.law qi3 qtb hd.pmap (qay t) aG.o true;have bp:((qdt ts).map (·.1)).Nodup:=by
   obtain⟨_,_,_,_,bp,_⟩:=hd.pmap;exact bp
  rw [qo7 hd.len bF.o bp,aH.o]at aj;have dP:B<Wd.heap.size:=qe hd.box;have c9:nb<Wd.heap.size:=qe d;clear bp hq dl;subst cg;cases au:qeg ts t with
  |some i=>
   have g:qhq n ts t=((i:Int),false,0):=by unfold qhq;rw [aJ.o,au];rfl
   have hT:qj3 n ts t=ts:=by unfold qj3;rw [g];rfl
   rw [au]at aj;simp only [yg]at aj;clear au d;refine hd4 ?_ g hT hd a3;clear g hT hd a3;intro r aD b0 aL
   go_region
   clear r0 r1 r2 r3 r4 r5 r6 r7 r8 r9 av aw ax ay az aA b3 aj;go_wp2_with fail
   go_ret3
   exact⟨by rw [r.o];try rfl,aL.o.mono fun b hb _=>hb,tag,vD,by rw [aD.o];exact b0.o,TagLe.refl _,TagNew.refl _ _⟩
  |none=>
   rw [au]at aj;simp only [yg]at aj;refine hd4 ?_ au d hd a3;clear au d hd a3;intro bD cI b0 aL
   go_region
   generalize W3.drew=Wd at*;clear aj b2 b3 r0 r1 r2 r3 r4 r5 r6 r7 r8 r9 av aw ax ay az aA;obtain⟨We,ch⟩:=ex (Wd.drew);have ag:Keep (fun k=>k<w.heap.size) w We:=by rw [←ch];exact aL.o.trans kDr
   have p:=Xh.o.keep ag (fun b T hb bo=>bo);have f:We.heap[nb]?=some (.cells #[.int .i64 k0,.int .i64 k1,.int .i64 k2,.int .i64 k3,.int .i64 k4,.int .i64 k5,.int .i64 k6,.int .i64 k7,.int .i64 k8,.int .i64 k9,.int .i64 R,.int .i64 U,.int .i64 X,.int .i64 Y,.int .i64 aa,.int .i64 ab] 214 (0,0)):=by rw [←ch];exact cI.o
   have b2:Wd.cell? ⟨B,2,none⟩=some (.int .i64 (ts.length:Int)):=by have:=qb b0.o.box 2 _ rfl;simpa using this
   have b3:=qb p.box 3 _ rfl;have r0:=qb f 0 _ rfl;have r1:=qb f 1 _ rfl;have r2:=qb f 2 _ rfl;have r3:=qb f 3 _ rfl;have r4:=qb f 4 _ rfl;have r5:=qb f 5 _ rfl;have r6:=qb f 6 _ rfl;have r7:=qb f 7 _ rfl;have r8:=qb f 8 _ rfl;have r9:=qb f 9 _ rfl;have av:=qb f 10 _ rfl;have aw:=qb f 11 _ rfl;have ax:=qb f 12 _ rfl;have ay:=qb f 13 _ rfl;have az:=qb f 14 _ rfl;have aA:=qb f 15 _ rfl;simp only [zD]at b3 r0 r1 r2 r3 r4 r5 r6 r7 r8 r9 av aw ax ay az aA;have dQ:B<We.heap.size:=qe p.box;have da:nb<We.heap.size:=qe f;obtain⟨W5,dh,c4,af,d0⟩:=qh3 (P:=prog) Tryz.underlying206 qki.law qi3 p.pmap (qay t) aG.o ts.length;rw [aH.o]at dh;have cV:B≠P:=fun e=>by have:=p.tagB;rw [e,p.tagP] at this;cases this
   have aN:=af.heap p.box cV;have aU:=qf p.own af (fun b hb e=>by have:=p.tagD b hb;rw [e,p.tagP] at this;cases this);have dk:Keep (fun b=>tag b=none) w W5:=⟨af.os.trans ag.os,af.tape.trans ag.tape,af.output.trans ag.output,zW ag.size af.size,fun b hb hC=>(af.block b (zk hb ag.size) (fun e=>by rw [e,Xh.o.tagP] at hC;cases hC)).trans (ag.block b hb hb)⟩;have df:=qmk bk.o am.o dk (fun b hb _=>hb);have ae:=qfo (sz:=1) ic (fun _=>rfl) xz (E:=qe8) (fun b o x h j u hj=>by
    have dU:j=0:=by have:=(zA.1 hj).1;simp [ic] at this;exact this
    subst dU;simp [ic]at hj;subst hj;exact h) df rfl
   have cX:=qn2 p.len;have cY:ts.flatten.length<=134217728*16:=by rw [cX];exact Nat.mul_le_mul hl bM
   obtain⟨vD',W6,dc,bq,ci,cq⟩:=qi0 (P:=prog) ql8 125 aU a t.length c (t.flatMap ic) (qa1 _ 1 (fun _=>rfl) _) ae.1 ae.2 (qi2 _ (by simp [ic,Value.oneCell']) _) xz (ya _);rw [ql7]at bq;obtain⟨s,z,y,rfl⟩: ∃s z y,vD'=.slice s z y:=by
    obtain⟨a1,c1,e⟩:=qi bq;exact⟨_,_,_,e⟩
   have cP:Value.ownBlock (.slice s z y)≠some B:=fun e=>by
    rcases ci B e with h1 |h1
    ·have:=p.tagD B h1;rw [p.tagB] at this;cases this
    ·have:=qe aN;omega
   have aO:=cq.heap aN cP;obtain⟨W7,ce⟩:=ex (W6.setCell ⟨B,1,none⟩ (.slice s z y));have aP:W7.heap[B]?=some (.cells (([.int .i64 (n:Int),(.slice s z y),.int .i64 (ts.length:Int),.map (some P),.map (some K)]:List Value)).toArray 209 (0,0)):=by rw [←ce];exact qz 1 (.slice s z y) aO
   obtain⟨W8,cf⟩:=ex (W7.setCell ⟨B,2,none⟩ (.int .i64 ((ts.length:Int)+1)));have bl:W8.heap[B]?=some (.cells (qet n (.slice s z y) (ts.length+1) P K).toArray 209 (0,0)):=by rw [←cf];exact qz 2 (.int .i64 ((ts.length:Int)+1)) aP
   have dm:Keep (fun b=>b≠B) W6 W8:=by rw [←cf,←ce];exact(kSc).trans (kSc)
   obtain⟨ar,cT,bL,aT,cp,bt⟩:=q4i Xh.o aJ.o aI.o bD.o ag c4 af bq ci cq bl dm;have c5:W5.cell? ⟨B,1,none⟩=some vD:=by have:=qb aN 1 _ rfl;simpa using this
   have c6:W6.cell? ⟨B,1,none⟩=some vD:=by have:=qb aO 1 _ rfl;simpa using this
   have f6:=qg aO 1;have c7:W7.cell? ⟨B,2,none⟩=some (.int .i64 (ts.length:Int)):=by have:=qb aP 2 _ rfl;simpa using this
   have f7:=qg aP 2;have c8:W8.cell? ⟨B,4,none⟩=some (.map (some K)):=by have:=qb bl 4 _ rfl;simpa using this
   have dL:=qe aN;have dM:=qe aO;have dN:=qe aP;have dO:=qe bl;have dV:(ts.length:Int)+1<=536870912:=xz
   have g:qhq n ts t=((ts.length:Int),true,0):=by unfold qhq;rw [aJ.o,bD.o];rfl
   have hT:qj3 n ts t=ts++ [t]:=by unfold qj3;rw [g];rfl
   have dY:w.heap.size<=W8.heap.size:=cp.size;subst ch;clear ag p f c4 af aU dk df ae cX cY bq ci cq aN aO aP bl dm cV cP d0 bt;refine hd7 ?_ dc cT aT bL cp g hT;clear dc cT aT bL cp g hT;intro cJ aC bj b5 cN r aD;go_wp2_with fail
   go_region
   clear r0 r1 r2 r3 r4 r5 r6 r7 r8 r9 av aw ax ay az aA b3 b2;have bI:=aC.o.kmap;refine hd1 ?_ bI;clear bI;intro aF;clear bu z1 dP c9 dZ dV;go_wp2_with (first
    |(at_builtin;refine qcd (v:=vD) (u:=.slice a t.length c) (v':=(.slice s z y)) (w':=W6) rfl (.tmp 47) (.tmp 48) 125 rfl rfl rfl cJ.o ?_)
    |(at_range;refine qwo rfl _ 207 rfl Tryz.underlying207 rfl aF.o ?_;intro w0 aV ak di))
   go_frame
   have d1:w0.heap.size=W8.heap.size+1:=di;obtain⟨rb,br⟩:=ex (W8.heap.size);rw [br]at aV;rw [br];have ef:w.heap.size<=rb:=xz
   have dj:Keep (fun b=>tag b=none) w w0:=cN.o.trans ak.mt;have cR:RelG ar w0 B n (ts++ [t]) (fun c=>if (fun _:List Bool=>true) c then ts else ts++ [t]) (.slice s z y) P K lm:=(aC.o.keep ak (fun _ _ _ _=>wE)).to (fun _ _ _=>rfl);have bQ:ar rb=none:=by
    cases dR:ar rb with
    |none=>rfl
    |some T=>have:=aC.o.lt rb T dR;omega
   clear c5 c6 f6 c7 f7 c8 dL dM dN dO ce cf dh aF di d1 dY dQ da;refine hd6 ?_ aV dj cR bQ br ak;clear aV dj cR bQ br ak;intro b8 cM cF b7 d9 aK
   go_loopw [12] (fun _ wr=> ∃aq cnt tag',MapRange prog 217 qhx qj wr K rb lm aq cnt/\RelG tag' wr B n (ts++ [t]) (fun c=>if aq c then ts else ts++ [t]) (.slice s z y) P K lm/\TagLe tag tag'/\TagNew tag tag' w/\Keep (fun b=>tag b=none/\b<w.heap.size) w wr/\tag' rb=none)
    (fun _ wr=>wr.rangeLeft K rb)
   case atStart=>exact⟨_,_,ar,b8.o,cF.o,b5.o,bj.o,cM.o.mono (fun b _ h=>h.1),b7.o⟩
   case round=>
    obtain⟨aq,cnt,tag',cn,hG,c2,bN,cZ,bR⟩:=hrel;have de:=MapRange.left_eq cn;refine hd7 ?_ hG c2 bN cZ bR cn de;clear hG c2 bN cZ bR cn de;intro cD bz ai bx ad cK cL;go_wp2_with (at_next;refine qyw rfl _ rfl rfl cK.o ?_ ?_)
    ·intro eA cj;have cQ:qb5 tag' wr B n (ts++ [t]) (.slice s z y) P K lm:=cD.o.to (fun c L ae=>by rw [cj _ _ ae];rfl);refine hd2 ?_ cj cQ;clear cj cQ;intro d7 cE;go_wp2_with fail
     go_ret3
     exact⟨by rw [r.o];try rfl,bx.o.mono (fun b hb h=>⟨h,hb⟩),tag',_,by rw [aD.o];exact cE.o,bz.o,ai.o⟩
    ·intro cm L w1 ea ae ck aW c3 bm eF eC;have cc:=cD.o.keep bm (fun b T hb _ e=>by subst e;have:=ad.o;rw [hb] at this;cases this);obtain⟨l,vl,M,mm,cU⟩:=cc.looks cm L ae;have aM:LookAt tag' w1 n ts cm L l vl M mm:=by simpa [ck] using cU
     have ap:Keep (fun b=>tag b=none/\b<w.heap.size) w w1:=bx.o.trans (bm.mono fun b _ h=>by have:=h.2;omega);have aZ:qan w1.heap.size w1 (.slice a t.length c) t:=qop (qmk bk.o am.o ap (fun b hb ez=>⟨hb,xz⟩)) (by have:=ap.size;omega);have dW:l.length<=16:=by have:=qn3 aM.row;omega
     have dd:=aW.lt;clear cU;refine hd8 ?_ ae ck aW bm cc aM ap aZ;clear ae ck aW bm cc aM ap aZ;intro cH d8 b9 d6 aB bW aE an;go_wp2_with fail;refine(qs9 bW.o aB.o.lt bM xz _ t an.o bF.o aI.o dW).mono ?_;rintro e w2 ⟨rfl,a4,m',bG,a0,bn⟩;have cS:=q2h (tsl':=fun x=>if (aq x&&!decide (x=cm))=true then ts else ts++ [t]) aB.o cH.o wB (fun c' dS=>by simp [dS]) bG a0 bn;have aX:=b9.o.keep bn (by rw [aB.o.tagK];exact fun e=>(by cases e)) (by rw [ad.o];exact fun e=>(by cases e));have bS:=MapRange.left_eq aX;have bK:=bz.o.trans a0.le;have aS:=ai.o.trans a0.newT aE.o.size;have bH:Keep (fun b=>tag b=none/\b<w.heap.size) w w2:=aE.o.trans (bn.mono fun b _ h=>by
      cases hT:tag' b with
      |none=>exact fun e=>(by cases e)
      |some T=>
       rcases ai.o b T hT with ⟨T',h1⟩ |h1
       ·rw [h.1]at h1;cases h1
       ·have:=h.2;omega)
     have bP:a4 rb=none:=(a0.old rb dd (by rw [ad.o];exact fun e=>(by cases e))).trans ad.o;clear bG a0 bn;refine hd7 ?_ cS aX bS bK aS bH bP;clear cS aX bS bK aS bH bP;intro cG ca cb b4 bi b1 b6;go_wp2_with fail;go_roundw
     case rel=>exact⟨_,_,a4,ca.o,cG.o,b4.o,bi.o,b1.o,b6.o⟩
     case measure=>rw [cb.o,cL.o];exact c3
theorem qh7 (b:Nat): ∀(vs:List Value) (i:Nat) (w:World),World.setCells w b i vs=qgk b vs i w
 | [],_,_=>rfl
 |v::vs,i,w=>qh7 b vs (i+1) _
theorem qlj {b t:Nat}{d:Nat×Nat}{w:World}{c:Array Value}(vs:List Value)(h:w.heap[b]?=some (.cells c t d))(e:vs.length=c.size):(World.setCells w b 0 vs).heap[b]?=some (.cells vs.toArray t d):=by
 rw [qh7];exact qgl vs h e
theorem qlk (b:Nat)(vs:List Value)(i:Nat)(w:World):Keep (fun j=>j≠b) w (World.setCells w b i vs):=by
 rw [qh7];exact qeh b vs i w
theorem qjh (l:List Int):(qap l).length=16:=by simp [qap]
theorem q2i {l:List Int}{x:Int}(f:0<=x)(c:x<16):((qap l).map Value.bool).toArray.setIfInBounds x.toNat (.bool true)=((qap (l++ [x])).map .bool).toArray:=by
 apply Array.ext';simp only [Array.toList_setIfInBounds];rw [←map_set]
 congr 1
 apply xW;intro i;simp only [qap,getElem?_set,zP,zL,length_range];by_cases hi:x.toNat=i
 ·subst hi;rw [zI rfl,zI xz,xr xz];have:((x.toNat:Nat):Int)=x:=by omega
  simp [this]
 ·rw [zF hi];cases b:(List.range 16)[i]? with
  |none=>rfl
  |some j=>
   have e:j=i:=by
    rw [zA]at b;obtain⟨g,d⟩:=b
    simpa using d.symm
   subst e;have:((j:Nat):Int)≠x:=xz
   simp [this]
theorem qtc:qap []= [false,false,false,false,false,false,false,false,false,false,false,false,false,false,false,false]:=by simp [qap,xw]
def qji (n:Nat)(l:List Int):List Bool:=if qdf n l=true then qap l else qap []
theorem qz6 {n:Nat}{l:List Int}(b: ∀i,i<l.length->qhp n l i=true):qdf n l=true:=yL.2 fun i hi=>b i (by simpa using hi)
theorem q4j {w:World}{B n c P K:Nat}{vD:Value}(h:w.heap[B]?=some (.cells (qet n vD c P K).toArray 209 (0,0)))(hn:n<=16)(m:Nat)(v:Value)(l:List Int)(hs:qan m w v l)(hm:m<=w.heap.size):
  Calls prog 226 #[.pointer (some ⟨B,0,none⟩),v] w fun e w'=>e=.returned (.tuple #[qhx (qji n l),.bool (qdf n l)])/\Keep (fun k=>k<w.heap.size) w w':=by
 obtain⟨a,cc,rfl,b1,bV,aX⟩:=id hs;have hB:=qe h;obtain⟨W0,aJ⟩:=ex ((w.alloc (.cells #[.bool false,.bool false,.bool false,.bool false,.bool false,.bool false,.bool false,.bool false,.bool false,.bool false,.bool false,.bool false,.bool false,.bool false,.bool false,.bool false] 217)).alloc (.cells #[.bool false,.bool false,.bool false,.bool false,.bool false,.bool false,.bool false,.bool false,.bool false,.bool false,.bool false,.bool false,.bool false,.bool false,.bool false,.bool false] 217));have a0:wD w W0:=by rw [←aJ];exact kAl.trans kAl
 have s0:W0.heap.size=w.heap.size+1+1:=by rw [←aJ];simp
 have n1:W0.heap[w.heap.size]?=some (.cells #[.bool false,.bool false,.bool false,.bool false,.bool false,.bool false,.bool false,.bool false,.bool false,.bool false,.bool false,.bool false,.bool false,.bool false,.bool false,.bool false] 217 (0,0)):=by rw [←aJ];exact qec (qh _ _) _
 have n2:W0.heap[w.heap.size+1]?=some (.cells ((qap (l.take 0)).map .bool).toArray 217 (0,0)):=by rw [←aJ];rw [take_zero,qtc];simp only [qah,zO];simp
 have am:(prog.info? 217).map (·.size)=some 16:=wA
 refine hd7 ?_ h hs aX n1 n2 a0 am;clear h hs aX n1 n2 a0 am;intro Xh bF aU bg bh aV ae
 go_enter Tryz.func226,Tryz.ntmps226
 go_wp2_with fail
 go_loopw [12,7] (fun i j wr=> ∃k:Nat,k<=l.length/\i=.int .i64 k/\j=.int .i64 (if k=0 then-1 else l.getD (k-1) 0)/\Keep (fun j=>j≠w.heap.size+1) W0 wr/\wr.heap[w.heap.size+1]?=some (.cells ((qap (l.take k)).map .bool).toArray 217 (0,0))/\ ∀i,i<k->qhp n l i=true) (fun i j _=>l.length-(intOf i).toNat)
 case atStart=>exact⟨0,xz,rfl,rfl,Keep.refl _ _,bh.o,fun i hi=>xz⟩
 case round=>
  obtain⟨k,hk,rfl,rfl,hK,g,q⟩:=hrel;have bx:=hK.size;have Y:Keep (fun j=>j<w.heap.size) w wr:=(aV.o.mt).trans (hK.mono fun b _ h=>xz);have af:=Y.heap Xh.o hB;have ab:=hK.heap bg.o xz;have c0:=qb af 0 _ rfl;have ap:wr.there w.heap.size 0 16:=fun j hj=>by
   rw [zD];refine⟨?_,qg ab j⟩;simp [World.cell?,ab];omega
  simp only [zD]at c0;have bU:B<wr.heap.size:=xz
  have l1:w.heap.size<wr.heap.size:=xz
  have l2:w.heap.size+1<wr.heap.size:=xz
  by_cases aN:k<l.length
  ·obtain⟨x,hx⟩: ∃x,l[k]?=some x:=⟨_,zB aN⟩;obtain⟨b,o,rfl,hb,aS⟩:=aU.o k x hx;have aS:=Y.cell aS (by simp only;omega);simp only [yA]at aS;have d:b<wr.heap.size:=by omega
   have bw:(k:Int)<l.length:=xz
   have b0:(0:Int)<=k:=xz
   have aL:l.getD k 0=x:=by rw [zJ,hx];rfl
   obtain⟨p,t⟩:=ex ((if k=0 then (-1:Int) else l.getD (k-1) 0));have bf: -1<=p:=by
    rw [←t];split
    ·omega
    ·have:=q (k-1) xz;simp only [qhp,zV,zT]at this;omega
   rw [t];have aK:qhp n l k=true↔p<x/\x<n:=by
    simp only [qhp,zV,zT,y8,xB,aL];rw [←t];by_cases h0:k=0
    ·simp [h0];omega
    ·rw [zF h0];have:=q (k-1) xz;simp only [qhp,zV,zT]at this;constructor
     ·rintro⟨⟨q1,q2⟩,q3⟩;exact⟨q3.resolve_left h0,q2⟩
     ·rintro⟨q1,q2⟩;exact⟨⟨xz,q2⟩,.inr q1⟩
   by_cases s:p<x/\x<n
   ·obtain⟨g1,g2⟩:=s;have g3: ¬(x<=p):=by omega
    have g4: ¬((n:Int)<=x):=xz
    have g5:(0:Int)<=x:=xz
    have g6:x<16:=xz
    have ah:=qz x.toNat (.bool true) g;rw [q2i g5 g6]at ah;have an:l.take (k+1)=l.take k++ [x]:=by rw [zh,hx];rfl
    rw [←an]at ah;have bW:wr.frozen? ⟨w.heap.size+1,x.toNat,none⟩=false:=by simp [World.frozen?,g]
    obtain⟨u0,b2⟩: ∃u0,wr.cell? ⟨w.heap.size+1,x.toNat,none⟩=some u0:=by
     have bq:x.toNat<((qap (l.take k)).map Value.bool).length:=by rw [zL,qjh];omega
     have:=qb g x.toNat _ (by exact zB bq);rw [zD]at this;exact⟨_,this⟩
    have al: ∀i,i<k+1->qhp n l i=true:=fun i hi=>by
     rcases yX i k with h1 |h1
     ·exact q i h1
     ·have:i=k:=by omega
      subst this;exact aK.2 ⟨g1,g2⟩
    have ag:(if k+1=0 then (-1:Int) else l.getD (k+1-1) 0)=x:=by rw [zF xz,Nat.add_sub_cancel];exact aL
    clear aK q af ab g an hx aL t ap;refine hd5 ?_ ah hK Y al ag;clear ah hK Y al ag;intro aQ aO ad aI aj;go_wp2_with fail;exact⟨⟨k+1,xz,wB,by rw [aj.o],aO.o.trans (kSc),aQ.o,aI.o⟩,by simp [intOf];omega⟩
   ·have r:qdf n l=false:=by
     rw [Bool.eq_false_iff];intro br;exact s (aK.1 (yL.1 br k (by simpa using aN)))
    have aM:qhx (qji n l)=.agg #[.bool false,.bool false,.bool false,.bool false,.bool false,.bool false,.bool false,.bool false,.bool false,.bool false,.bool false,.bool false,.bool false,.bool false,.bool false,.bool false]:=by
     unfold qji;rw [r,zF wB,qtc]
     rfl
    by_cases g1:p<x
    focus
     have g2:(n:Int)<=x:=by
      rcases Int.lt_or_le x n with h1 |h1
      ·exact absurd ⟨g1,h1⟩ s
      ·exact h1
     have g3: ¬(x<=p):=xz
     clear s
    rotate_left
    focus
     have g3:x<=p:=xz
     clear s g1
    rotate_left
    all_goals
     clear aK q af g hx aL t;refine hd6 ?_ ab hK Y r aM ap;clear ab hK Y r aM ap;intro ai aO ad aa aP ak;go_wp2_with (refine wpList_store_mid rfl 217 _ _ rfl w.heap.size 0 #[.bool false,.bool false,.bool false,.bool false,.bool false,.bool false,.bool false,.bool false,.bool false,.bool false,.bool false,.bool false,.bool false,.bool false,.bool false,.bool false] rfl rfl ak.o ae.o (by simp [Value.oneCell']) ?_);refine qi1 (fun W=>W.heap[w.heap.size]?=some (.cells #[.bool false,.bool false,.bool false,.bool false,.bool false,.bool false,.bool false,.bool false,.bool false,.bool false,.bool false,.bool false,.bool false,.bool false,.bool false,.bool false] 217 (0,0))/\Keep (fun k=>k<w.heap.size) w W) (w:=World.setCells wr w.heap.size 0 [.bool false,.bool false,.bool false,.bool false,.bool false,.bool false,.bool false,.bool false,.bool false,.bool false,.bool false,.bool false,.bool false,.bool false,.bool false,.bool false]) ⟨qlj [.bool false,.bool false,.bool false,.bool false,.bool false,.bool false,.bool false,.bool false,.bool false,.bool false,.bool false,.bool false,.bool false,.bool false,.bool false,.bool false] ai.o rfl,ad.o.trans ((qlk _ _ _ _).mono (fun b _ h=>xz))⟩ ?_;rintro W2 ⟨f,kq⟩;have r0:=qb f 0 _ rfl;have r1:=qb f 1 _ rfl;have r2:=qb f 2 _ rfl;have r3:=qb f 3 _ rfl;have r4:=qb f 4 _ rfl;have r5:=qb f 5 _ rfl;have r6:=qb f 6 _ rfl;have r7:=qb f 7 _ rfl;have r8:=qb f 8 _ rfl;have r9:=qb f 9 _ rfl;have aC:=qb f 10 _ rfl;have aD:=qb f 11 _ rfl;have aE:=qb f 12 _ rfl;have aF:=qb f 13 _ rfl;have aG:=qb f 14 _ rfl;have aH:=qb f 15 _ rfl;simp only [zD]at r0 r1 r2 r3 r4 r5 r6 r7 r8 r9 aC aD aE aF aG aH;clear f;refine hd1 ?_ kq;clear kq;intro aR;refine zz (v:=.tuple #[.agg #[.bool false,.bool false,.bool false,.bool false,.bool false,.bool false,.bool false,.bool false,.bool false,.bool false,.bool false,.bool false,.bool false,.bool false,.bool false,.bool false],.bool false]) (by simp [results,Tryz.results226,go_sem,r0,r1,r2,r3,r4,r5,r6,r7,r8,r9,aC,aD,aE,aF,aG,aH]) rfl ⟨by rw [aP.o,aa.o],aR.o⟩
  ·generalize (if k=0 then (-1:Int) else l.getD (k-1) 0)=p;obtain rfl:k=l.length:=by omega
   rw [zi]at g;have r:qdf n l=true:=qz6 q;obtain⟨k0,k1,k2,k3,k4,k5,k6,k7,k8,k9,u,y,z,R,U,X,ao⟩: ∃k0 k1 k2 k3 k4 k5 k6 k7 k8 k9 u y z R U X,qap l= [k0,k1,k2,k3,k4,k5,k6,k7,k8,k9,u,y,z,R,U,X]:=by
    have aY:=qjh l
    match h:qap l,aY with
    | [k0,k1,k2,k3,k4,k5,k6,k7,k8,k9,u,y,z,R,U,X],_=>exact⟨k0,k1,k2,k3,k4,k5,k6,k7,k8,k9,u,y,z,R,U,X,rfl⟩
   have aW:qhx (qji n l)=.agg #[.bool k0,.bool k1,.bool k2,.bool k3,.bool k4,.bool k5,.bool k6,.bool k7,.bool k8,.bool k9,.bool u,.bool y,.bool z,.bool R,.bool U,.bool X]:=by unfold qji;rw [r,zI rfl,ao];rfl
   rw [ao]at g;have d:wr.heap[w.heap.size+1]?=some (.cells #[.bool k0,.bool k1,.bool k2,.bool k3,.bool k4,.bool k5,.bool k6,.bool k7,.bool k8,.bool k9,.bool u,.bool y,.bool z,.bool R,.bool U,.bool X] 217 (0,0)):=g;have c1:=qb d 0 _ rfl;have c2:=qb d 1 _ rfl;have c3:=qb d 2 _ rfl;have c4:=qb d 3 _ rfl;have c5:=qb d 4 _ rfl;have c6:=qb d 5 _ rfl;have c7:=qb d 6 _ rfl;have c8:=qb d 7 _ rfl;have c9:=qb d 8 _ rfl;have bi:=qb d 9 _ rfl;have bj:=qb d 10 _ rfl;have bk:=qb d 11 _ rfl;have bl:=qb d 12 _ rfl;have bm:=qb d 13 _ rfl;have bn:=qb d 14 _ rfl;have bo:=qb d 15 _ rfl;simp only [zD]at c1 c2 c3 c4 c5 c6 c7 c8 c9 bi bj bk bl bm bn bo;clear g ao d q af;refine hd6 ?_ ab hK Y r aW ap;clear ab hK Y r aW ap;intro ai aO ad aa aT ak;go_wp2_with (refine wpList_store_mid rfl 217 _ _ rfl w.heap.size 0 #[.bool k0,.bool k1,.bool k2,.bool k3,.bool k4,.bool k5,.bool k6,.bool k7,.bool k8,.bool k9,.bool u,.bool y,.bool z,.bool R,.bool U,.bool X] rfl rfl ak.o ae.o (by simp [Value.oneCell']) ?_);refine qi1 (fun W=>W.heap[w.heap.size]?=some (.cells #[.bool k0,.bool k1,.bool k2,.bool k3,.bool k4,.bool k5,.bool k6,.bool k7,.bool k8,.bool k9,.bool u,.bool y,.bool z,.bool R,.bool U,.bool X] 217 (0,0))/\Keep (fun k=>k<w.heap.size) w W) (w:=World.setCells wr w.heap.size 0 [.bool k0,.bool k1,.bool k2,.bool k3,.bool k4,.bool k5,.bool k6,.bool k7,.bool k8,.bool k9,.bool u,.bool y,.bool z,.bool R,.bool U,.bool X]) ⟨qlj [.bool k0,.bool k1,.bool k2,.bool k3,.bool k4,.bool k5,.bool k6,.bool k7,.bool k8,.bool k9,.bool u,.bool y,.bool z,.bool R,.bool U,.bool X] ai.o rfl,ad.o.trans ((qlk _ _ _ _).mono (fun b _ h=>xz))⟩ ?_;rintro W2 ⟨f,kq⟩;have r0:=qb f 0 _ rfl;have r1:=qb f 1 _ rfl;have r2:=qb f 2 _ rfl;have r3:=qb f 3 _ rfl;have r4:=qb f 4 _ rfl;have r5:=qb f 5 _ rfl
   have r6:=qb f 6 _ rfl;have r7:=qb f 7 _ rfl;have r8:=qb f 8 _ rfl;have r9:=qb f 9 _ rfl;have aC:=qb f 10 _ rfl;have aD:=qb f 11 _ rfl;have aE:=qb f 12 _ rfl;have aF:=qb f 13 _ rfl;have aG:=qb f 14 _ rfl;have aH:=qb f 15 _ rfl;simp only [zD]at r0 r1 r2 r3 r4 r5 r6 r7 r8 r9 aC aD aE aF aG aH;clear f;refine hd1 ?_ kq;clear kq;intro aR;refine zz (v:=.tuple #[.agg #[.bool k0,.bool k1,.bool k2,.bool k3,.bool k4,.bool k5,.bool k6,.bool k7,.bool k8,.bool k9,.bool u,.bool y,.bool z,.bool R,.bool U,.bool X],.bool true]) (by simp [results,Tryz.results226,go_sem,r0,r1,r2,r3,r4,r5,r6,r7,r8,r9,aC,aD,aE,aF,aG,aH]) rfl ⟨by rw [aT.o,aa.o],aR.o⟩
end Go.Proofs.R4
