/- Parts of the proof. -/
import Derived.Test.YtnponcjnahicnaaGreatDlGToDlI
set_option linter.unusedSimpArgs false
set_option linter.unusedVariables false
set_option maxRecDepth 100000
set_option maxHeartbeats 4000000
open Go.Proofs.Tryz(prog)
open List(all_append all_cons all_nil map_eq_flatMap map_set nil_append set_getElem_self)
namespace Go.Proofs
open Go.RowKit Go.Ink Go.Flt R4 P16
attribute [local go_sem] Oper.semAt_some
abbrev BlIn (n:Nat)(w:World)(v:Value)(bs:List Bool):Prop:=SliceIn n w 1 (fun w b o x=>w.cell? ⟨b,o,none⟩=some (.bool x)) v bs
theorem q4o:qcj prog 68 4 1 1:=qc2 (z:=.bool false) wD wD rfl wF wF
theorem q09 {m:Nat}{w:World}{a:Option Addr}{c:Nat}{ts:List Bool}(h:BlIn m w (.slice a ts.length c) ts):(∀b,a=some b-> ∀j u,(ts.map Value.bool)[j]?=some u->w.cell? (b.add j)=some u)/\(a=none->ts.length=0):=by
 have:=qvq (f:=fun t:Bool=> [Value.bool t]) (fun _=>rfl) h fun b o x e j u d=>by
  match j,d with
  |0,d=>cases d;exact e
 rw [←map_eq_flatMap]at this;exact this
theorem q1a (ts:List Bool): ∀u∈ts.map Value.bool,u.oneCell'=true:=fun u b=>by
 obtain⟨t,-,rfl⟩:=yL.1 b
 rfl
theorem q1b {w:World}{base n:Nat}{v:Value}{bs:List Bool}(h:w.ownsRow base 4 1 v n (bs.map .bool))(e:n=bs.length)(c:bs.length<=1073741824):BlIn w.heap.size w v bs:=
 qdb h bs e c _ fun b k x g d=>by
  have:=d 0 wF;rw [zP,show k*1+0=k from wC,g]at this
  simpa using this
theorem BlIn.keep {n:Nat}{w w':World}{v:Value}{bs:List Bool}(h:BlIn n w v bs)(hK:Keep (fun b=>b<n) w w'):BlIn n w' v bs:=h.mono fun b o s c d=>hK.cell d c
theorem qr5 {a:Asg}{t:TermD}{ts:List TermD}{x:ByteArray}{xs:List ByteArray}{y:ByteArray}(b:qaa a t=some y):qbg a (t::ts) (x::xs)=if y=x then qbg a ts xs else none:=by
 rw [qbg,b]
theorem q4p {a:Asg}{t:TermD}{ts:List TermD}{x:ByteArray}{xs:List ByteArray}(b:qaa a t=none):qbg a (t::ts) (x::xs)=qbg (qfv a t.text x) ts xs:=by
 rw [qbg,b]
theorem qtz {α:Type}{l:List α}{k:Nat}{x:α}(h:l[k]?=some x):l.set k x=l:=by
 obtain⟨b,e⟩:=zA.1 h;rw [←e,set_getElem_self]
theorem q1c {n:Nat}{w:World}{vt vv vl vk:Value}{vars vals ts:List ByteArray}{X:List Bool}{a:Asg}(hA:qcs vars vals X a)(aU:vars.Nodup)(hv:qac n w vv vars)(hl:qac n w vl vals)(hb:BlIn n w vk X)(ht:qac n w vt ts)(aY: ∀s,s∈ts->s.size<=1073741824)(hn:n<=w.heap.size)(p:qcn){sa:Value}(hp:qai n w sa p.args)(aT: ∀t,t∈p.args->qex vars t):
  Calls prog 118 #[.agg #[.string p.pred,sa],vt,vv,vl,vk] w fun e w'=> ∃v' k' ok,e=.returned (.tuple #[v',k',.bool ok])/\wG w w'/\(qbg a p.args ts=none->ok=false)/\
   ∀a',qbg a p.args ts=some a'->ok=true/\ ∃vals' kn',qcs vars vals' kn' a'/\w'.ownsRow w.heap.size 9 1 v' vals'.length (vals'.map .string)/\w'.ownsRow w.heap.size 4 1 k' kn'.length (kn'.map .bool):=by
 obtain⟨N,hN⟩:=ex (w.heap.size);obtain⟨cU,ct,rfl,db,c6,aS⟩:=id ht;obtain⟨av,cv,rfl,dc,-,-⟩:=id hv;obtain⟨al,cl,rfl,c9,-,-⟩:=id hl;obtain⟨ak,ck,rfl,c8,-,-⟩:=id hb;obtain⟨ap,cp,rfl,da,c5,aR⟩:=id hp;obtain⟨W0,ae⟩:=ex (w.alloc (.cells #[.string p.pred,.slice ap p.args.length cp] 24));have k0:wG w W0:=by rw [←ae];exact kAl
 have p0:W0.heap[N]?=some (.cells #[.string p.pred,.slice ap p.args.length cp] 24 (0,0)):=by rw [←ae,←hN];exact qh _ _
 have z0:W0.heap.size=N+1:=by rw [←ae,←hN];simp
 obtain⟨W1,aj⟩:=ex (W0.alloc (.cells #[] 9));have k1:wG W0 W1:=by rw [←aj];exact kAl
 have o1:=qfg W0 9 1;rw [aj,z0]at o1;obtain⟨b1,bU⟩:=qne (qan hl ((k0.trans k1).mt));obtain⟨v2,W2,aW,aK,bP,bR⟩:=qhz (P:=prog) qel 46 o1 al vals.length cl (vals.map .string) wE b1 bU (qnf _) wC (by have:=k1.size;omega);rw [nil_append,zD]at aK;obtain⟨a2,c2,rfl⟩:=qj aK;have z1:=k1.size;have aZ:Keep (fun b=>b<N+1) W0 W2:=k1.mt.trans (bR.mono fun b _ h e=>by
  rcases bP b e with h1 |h1
  ·simp [Value.ownBlock]at h1;omega
  ·omega)
 have z2:=aZ.size;obtain⟨W3,am⟩:=ex (W2.alloc (.cells #[] 4));have k3:wG W2 W3:=by rw [←am];exact kAl
 have o3:=qfg W2 4 1;rw [am]at o3;have b7:Keep (fun b=>b<n) w W3:=k0.mt.trans ((aZ.mono fun b _ h=>wC).trans k3.mt);obtain⟨b2,bV⟩:=q09 (hb.keep b7);obtain⟨v4,W4,aX,aV,bQ,bS⟩:=qhz (P:=prog) q4o 68 o3 ak X.length ck (X.map .bool) wE b2 bV (q1a _) wC k3.size;rw [nil_append,zD]at aV;obtain⟨a4,c4,rfl⟩:=qj aV;have z3:=k3.size;have a0:Keep (fun b=>b<W2.heap.size) W2 W4:=k3.mt.trans (bS.mono fun b _ h e=>by
  rcases bQ b e with h1 |h1
  ·simp [Value.ownBlock]at h1;omega
  ·omega)
 have ag:=qf aK a0 fun b hb=>(zE aK b hb).2;have ah:=aV.mono (show N+1<=W2.heap.size from wC);have ar:Keep (fun b=>b<N+1) W0 W4:=aZ.trans (a0.mono fun b _ h=>wC);have cq:N<W4.heap.size:=by have:=a0.size;omega
 have d1:=qb (ar.heap p0 wC) 1 _ rfl;simp only [zD]at d1;rw [←hN]at d1 cq;clear b1 bU bP bR b2 bV bQ bS aK aV o1 o3 k1 k3 b7 aZ a0;by_cases R:p.args.length=ts.length
 ·have bl:((p.args.length:Int) !=ts.length)=false:=by rw [R];simp
  refine qb5 ?_ hA aU hv hl hb ht aY hp aT hN ae k0 p0 aj aW am;clear hA aU hv hl hb ht aY hp aT hN ae k0 p0 aj aW am;intro ai a6 bF ce cd cg a8 cf a5 l az bG bH aA aE aB;refine hd7 ?_ aX ag ah ar aS aR R;clear aX ag ah ar aS aR R;intro aF aC aD a9 a3 a1 U
  go_enter Tryz.func118,Tryz.ntmps118
  go_wp2_with (at_builtin;first |(refine qbu (v:=.slice (some ⟨w.heap.size+1,0,none⟩) 0 0) (u:=.slice al vals.length cl) (v':=.slice a2 vals.length c2) (w':=W2) rfl (.tmp 17) (.tmp 18) 46 rfl rfl rfl (by rw [az.o,aA.o,l.o];exact aE.o) ?_) |(refine qbu (v:=.slice (some ⟨W2.heap.size,0,none⟩) 0 0) (u:=.slice ak X.length ck) (v':=.slice a4 X.length c4) (w':=W4) rfl (.tmp 20) (.tmp 21) 68 rfl rfl rfl (by rw [aB.o];exact aF.o) ?_));rw [l.o];clear d1
  go_loopw [15] (fun ix wr=> ∃(i:Nat) (us:List ByteArray) (bs:List Bool) (a':Asg),i<=ts.length/\ix=.int .i64 (i:Int)/\Keep (fun b=>b<N+1) W0 wr/\wr.ownsRow (N+1) 9 1 (.slice a2 vals.length c2) vals.length (us.map .string)/\wr.ownsRow (N+1) 4 1 (.slice a4 X.length c4) X.length (bs.map .bool)/\qcs vars us bs a'/\qbg a p.args ts=qbg a' (p.args.drop i) (ts.drop i)) (fun i _=>ts.length-(intOf i).toNat)
  case atStart=>exact⟨0,vals,X,a,wC,rfl,a9.o,aC.o,aD.o,ai.o,rfl⟩
  case round=>
   obtain⟨i,us,bs,a',hi,rfl,hK,hU,hB,z,c⟩:=hrel;have dl:=hK.size;have c7:(0:Int)<=i:=wC
   have d1:=qb (hK.heap bH.o wC) 1 _ rfl;have c0:N<wr.heap.size:=wC
   simp only [zD]at d1;have kE:Keep (fun b=>b<N) w wr:=bG.o.mt.trans (hK.mono fun b _ h=>wC);by_cases bh:i<ts.length
   ·have cK:(i:Int)<ts.length:=by omega
    have cL:(i:Int)<p.args.length:=by have:=U.o;omega
    obtain⟨x,hx⟩: ∃x,ts[i]?=some x:=⟨_,zB bh⟩;obtain⟨t,ht⟩: ∃t,p.args[i]?=some t:=⟨_,zB (by have:=U.o;omega)⟩;obtain⟨bx,ox,rfl,cu,aQ⟩:=a3.o i x hx;obtain⟨bt,ot,rfl,bJ,q0,q1⟩:=a1.o i t ht;have kn':Keep (fun b=>b<n) w wr:=kE.mono fun b _ h=>by have:=l.o;omega
    have aQ:w.cell? ⟨bx,ox+i*1,none⟩=some (.string x):=aQ;have e0:=kn'.cell aQ cu;have g0:=kn'.cell q0 bJ;have g1:=kn'.cell q1 bJ;simp only [yB]at e0;have lx:bx<wr.heap.size:=by have:=l.o;omega
    have lt:bt<wr.heap.size:=by have:=l.o;omega
    have aI:p.args.drop i=t::p.args.drop (i+1):=by
     obtain⟨h1,e1⟩:=zA.1 ht;rw [zt h1,e1]
    have bM:ts.drop i=x::ts.drop (i+1):=by
     obtain⟨h1,e1⟩:=zA.1 hx;rw [zt h1,e1]
    have cA:=a8.o x (zH hx);have cx:=a5.o t (zH ht);rw [aI,bM]at c;clear aI bM q0 q1 aQ hx ht;cases aL:t.var with
    |false=>
     rw [aL]at g0;have bo:qaa a' t=some t.text:=by unfold qaa;rw [aL];rfl
     rw [qr5 bo]at c;by_cases aq:t.text=x
     ·have bm:=qdv aq;rw [zI aq]at c;clear aq bo;refine hd7 ?_ hK hU hB z c kE kn';clear hK hU hB z c kE kn';intro ay aa Y g d ab ba;go_wp2_with fail
      go_quiet (fail)
      go_wp2_with fail;go_roundw
      case rel=>exact⟨i+1,us,bs,a',wC,by go_num,ay.o.trans (Keep.drewN' _ _ _),qf aa.o (Keep.drewN' (fun _=>True) _ _) (fun _ _=>wH),qf Y.o (Keep.drewN' (fun _=>True) _ _) (fun _ _=>wH),g.o,d.o⟩
      case measure=>simp [intOf];omega
     ·have bm:=qc1 aq;rw [zF aq]at c;clear aq bo;refine hd7 ?_ hK hU hB z c kE kn';clear hK hU hB z c kE kn';intro ay aa Y g d ab ba;go_wp2_with fail
      go_quiet (fail)
      go_wp2_with fail;refine yA (v:=.tuple #[.slice a2 vals.length c2,.slice a4 X.length c4,.bool false]) (by simp [results,Tryz.results118,go_sem]) rfl ⟨_,_,_,rfl,(ab.o.trans (Keep.drewN' _ _ _)).mono fun b hb _=>by have:=l.o;omega,fun _=>rfl,fun a' h=>?_⟩;rw [d.o]at h;cases h
    |true=>
     rw [aL]at g0;have b0:=qp9 n (.slice av vars.length cv) vars t.text wr (qan bF.o kn') (by have:=l.o;omega) (cx aL);have b3:qaa a' t=a' t.text:=by unfold qaa;rw [aL,zI rfl]
     refine hd9 ?_ hK hU hB z c kE kn' b0 b3;clear hK hU hB z c kE kn' b0 b3;intro ay aa Y g d ab ba bD a7;go_wp2_with fail;refine bD.o.mono ?_;rintro e W9 ⟨q,rfl,bk,hq⟩;have bk:=bk.symm;subst bk;have dk:=(zA.1 hq).1;have cz:=ai.o.lv;have cw:=ai.o.lk;have cy:=g.o.lv;have cs:=g.o.lk;obtain⟨gV,cI,b6,c3,lV,dg,de,bL,bO⟩:=qsk aa.o wC;obtain⟨gB,cH,b5,c1,lB,df,dd,bK,bN⟩:=qsk Y.o wC;have bi:gB≠gV:=fun e=>qc9 Y.o aa.o wF (b:=gB) (by rw [b5];rfl) (by rw [b6,←e];rfl);cases b6;cases b5;obtain⟨u,hu⟩: ∃u,us[q]?=some u:=⟨_,zB wC⟩;obtain⟨b,an⟩: ∃b,bs[q]?=some b:=⟨_,zB wC⟩;have cV:=bL q (.string u) (by rw [zP,hu];rfl);have cB:=bK q (.bool b) (by rw [zP,an];rfl);have fV:=bO q;have fB:=bN q;have di:(q:Int)<vals.length:=wC
     have dj:(q:Int)<X.length:=wC
     have dh:(0:Int)<=q:=wC
     have ao:=g.o.kw q t.text hq;rw [an]at ao;have bg: ∀m:Nat,Keep (fun b=>b<N+1) W0 (((wr.drewN m).setCell ⟨gV,q,none⟩ (.string x)).setCell ⟨gB,q,none⟩ (.bool true))/\(((wr.drewN m).setCell ⟨gV,q,none⟩ (.string x)).setCell ⟨gB,q,none⟩ (.bool true)).ownsRow (N+1) 9 1 (.slice (some ⟨gV,0,none⟩) vals.length c2) vals.length ((us.set q x).map .string)/\(((wr.drewN m).setCell ⟨gV,q,none⟩ (.string x)).setCell ⟨gB,q,none⟩ (.bool true)).ownsRow (N+1) 4 1 (.slice (some ⟨gB,0,none⟩) X.length c4) X.length ((bs.set q true).map .bool):=fun m=>by
      have kd:=Keep.drewN' (fun _=>True) wr m;have s1:=qh9 (qf aa.o kd fun _ _=>wH) q (.string x) (by rw [zL];omega);have kV:Keep (fun b=>b≠gV) (wr.drewN m) ((wr.drewN m).setCell ⟨gV,q,none⟩ (.string x)):=kSc;have s2:=qh9 (qf (qf Y.o kd fun _ _=>wH) kV fun b hb e=>bi ((show gB=b from by simpa [Value.ownBlock] using hb).trans e)) q (.bool true) (by rw [zL];omega);have kB:Keep (fun b=>b≠gB) ((wr.drewN m).setCell ⟨gV,q,none⟩ (.string x)) (((wr.drewN m).setCell ⟨gV,q,none⟩ (.string x)).setCell ⟨gB,q,none⟩ (.bool true)):=kSc;rw [map_set,map_set];exact⟨ay.o.trans (kd.mt.trans ((kV.mono fun b _ h=>wC).trans (kB.mono fun b _ h=>wC))),qf s1 kB (fun b hb e=>bi ((show gV=b from by simpa [Value.ownBlock] using hb).trans e).symm),s2⟩
     clear bL bK bO bN cz cw cy cs;have r:=zg bg;clear bg;cases b with
     |true=>
      obtain⟨y,hy⟩:=ao.1 rfl;have cC:y=u:=by
       have:=g.o.val q t.text y hq hy;rw [hu]at this;exact(yI this).symm
      subst cC;have c:=d.o;rw [qr5 (a7.o.trans hy)]at c;by_cases af:y=x
      ·have bm:=qdv af;rw [zI af]at c;have aH:qcs vars (us.set q x) (bs.set q true) a':=by rw [qtz (by rw [hu,af]),qtz an];exact g.o
       clear af hu an ao hy hq d;refine hd2 ?_ c aH;clear c aH;intro d ax;go_wp2_with fail
       go_quiet (fail)
       go_wp2_with fail;go_roundw
       case rel=>exact⟨i+1,us.set q x,bs.set q true,_,wC,by go_num,(r.o _).1,(r.o _).2.1,(r.o _).2.2,ax.o,d.o⟩
       case measure=>simp [intOf];omega
      ·have bm:=qc1 af;rw [zF af]at c;clear af hu an ao hy hq d;refine hd1 ?_ c;clear c;intro d;go_wp2_with fail
       go_quiet (fail)
       go_wp2_with fail;refine yA (v:=.tuple #[.slice (some ⟨gV,0,none⟩) vals.length c2,.slice (some ⟨gB,0,none⟩) X.length c4,.bool false]) (by simp [results,Tryz.results118,go_sem]) rfl ⟨_,_,_,rfl,(ab.o.trans (Keep.drewN' _ _ _)).mono fun b hb _=>by have:=l.o;omega,fun _=>rfl,fun a' h=>?_⟩;rw [d.o]at h;cases h
     |false=>
      have aJ:a' t.text=none:=by
       cases h:a' t.text with
       |none=>rfl
       |some y=>exact absurd (ao.2 ⟨y,h⟩) wE
      have c:=d.o;rw [q4p (a7.o.trans aJ)]at c;have aH:=qwi a6.o g.o hq x cA;clear aJ hu an ao hq d;refine hd2 ?_ c aH;clear c aH;intro d ax;go_wp2_with fail
      go_quiet (fail)
      go_wp2_with fail;go_roundw
      case rel=>exact⟨i+1,us.set q x,bs.set q true,_,wC,by go_num,(r.o _).1,(r.o _).2.1,(r.o _).2.2,ax.o,d.o⟩
      case measure=>simp [intOf];omega
   ·obtain rfl:i=ts.length:=by omega
    have aI:p.args.drop ts.length= []:=xn (by have:=U.o;omega);rw [aI,xq]at c;have c:qbg a p.args ts=some a':=c;have cr:us.length=vals.length:=by rw [z.lv,ai.o.lv]
    have co:bs.length=X.length:=by rw [z.lk,ai.o.lk]
    clear bh aI;refine hd6 ?_ hK hU hB z c kE;clear hK hU hB z c kE;intro ay aa Y g d ab;go_wp2_with fail;refine yA (v:=.tuple #[.slice a2 vals.length c2,.slice a4 X.length c4,.bool true]) (by simp [results,Tryz.results118,go_sem]) rfl ⟨_,_,_,rfl,ab.o.mono fun b hb _=>by have:=l.o;omega,fun h=>?_,fun cT h=>?_⟩
    ·rw [d.o]at h;cases h
    ·rw [d.o]at h;cases h;exact⟨rfl,us,bs,g.o,by rw [cr];exact aa.o.mono (by have:=l.o;omega),by rw [co];exact Y.o.mono (by have:=l.o;omega)⟩
 ·have bl:((p.args.length:Int) !=ts.length)=true:=by simp;omega
  have aJ:=qx5 (a:=a) R;have kE:Keep (fun b=>b<N) w W4:=k0.mt.trans (ar.mono fun b _ h=>wC);refine qb5 ?_ hA aU hv hl hb ht aY hp aT hN ae k0 p0 aj aW am;clear hA aU hv hl hb ht aY hp aT hN ae k0 p0 aj aW am;intro ai a6 bF ce cd cg a8 cf a5 l az bG bH aA aE aB;refine hd9 ?_ aX ag ah ar aS aR R aJ kE;clear aX ag ah ar aS aR R aJ kE;intro aF aC aD a9 a3 a1 U bz ab
  go_enter Tryz.func118,Tryz.ntmps118
  go_wp2_with (at_builtin;first |(refine qbu (v:=.slice (some ⟨w.heap.size+1,0,none⟩) 0 0) (u:=.slice al vals.length cl) (v':=.slice a2 vals.length c2) (w':=W2) rfl (.tmp 17) (.tmp 18) 46 rfl rfl rfl (by rw [az.o,aA.o,l.o];exact aE.o) ?_) |(refine qbu (v:=.slice (some ⟨W2.heap.size,0,none⟩) 0 0) (u:=.slice ak X.length ck) (v':=.slice a4 X.length c4) (w':=W4) rfl (.tmp 20) (.tmp 21) 68 rfl rfl rfl (by rw [aB.o];exact aF.o) ?_));refine yA (v:=.tuple #[.slice a2 vals.length c2,.slice a4 X.length c4,.bool false]) (by simp [results,Tryz.results118,go_sem]) rfl ⟨_,_,_,rfl,ab.o.mono fun b hb _=>by have:=l.o;omega,fun _=>rfl,fun a' h=>?_⟩;rw [bz.o]at h;cases h
def qgz (J:qbd)(body:List LitD)(b:Asg)(i:Nat):Bool:=
 if qbm body i=3 then qaa b (body.getD i default).left !=qaa b (body.getD i default).right
  else if qbm body i=2 then !decide ((body.getD i default).atom.args.map (qaz b)∈J.neg i) else true
theorem q6v (J:qbd)(body:List LitD)(b:Asg):qi5 J body b=(List.range body.length).all (qgz J body b):=rfl
theorem qqa {vars:List ByteArray}{b:Asg}{t:TermD}(h:KnT vars b t):qaa b t=some (qaz b t):=by
 unfold qaz qaa;by_cases c:t.var=true
 ·obtain⟨-,y,d⟩:=h c;rw [zI c,d]
  rfl
 ·rw [zF c]
  rfl
theorem q1d {α:Type}{p:α->Bool}{l:List α}{x:α}(b:x∈l)(h:p x=false):l.all p=false:=by
 cases e:l.all p with
 |false=>rfl
 |true=>rw [yM.1 e x b] at h;cases h
theorem q1e {n:Nat}{w:World}{vv vl sh sb:Value}{vars vals:List ByteArray}{kn:List Bool}{b:Asg}{r:RuleD}{s:Option Nat}{neg:List qk}{pos:Nat->List qk}(hr:RuleIn n w sh sb r)(hA:qcs vars vals kn b)(hv:qac n w vv vars)(hl:qac n w vl vals)(hn:n<=w.heap.size)(hs:RSt w s neg)
  (hk: ∀L,L∈r.body->L.kind=2∨L.kind=3-> ∀t,t∈qq L->KnT vars b t):
  Calls prog 116 #[qam r sh sb,vv,vl,.pointer (s.map fun S=>⟨S,0,none⟩)] w fun e w'=>e=.returned (.bool (qi5 (qd3 r.body pos neg) r.body b))/\Keep (fun b=>b<w.heap.size) w w':=by
 rw [q6v];unfold qam;obtain⟨ps,bW⟩:=ex ((s.map fun S=>(⟨S,0,none⟩:Addr)));have bu:=fun W (hK:Keep (fun b=>b<w.heap.size) w W)=>fun f m v ht hm=>qty (hs.keep hK) f m v ht hm;rw [bW]at bu⊢;obtain⟨N,hN⟩:=ex (w.heap.size);obtain⟨av,cv,rfl,-,-,-⟩:=id hv;obtain⟨al,cl,rfl,-,-,-⟩:=id hl;obtain⟨⟨ah,bH,rfl,ct,cq,bL⟩,⟨ab,bG,rfl,cs,cp,bK⟩⟩:=id hr;obtain⟨W0,bv⟩:=ex (w.alloc (.cells #[.string r.head.pred,.slice ah r.head.args.length bH,.slice ab r.body.length bG] 27));have k0:wG w W0:=by rw [←bv];exact kAl
 have p0:W0.heap[N]?=some (.cells #[.string r.head.pred,.slice ah r.head.args.length bH,.slice ab r.body.length bG] 27 (0,0)):=by rw [←bv,←hN];exact qh _ _
 have z0:W0.heap.size=N+1:=by rw [←bv,←hN];simp
 refine qlu ?_ hr bL bK hA hv hl hs hk bW bu hN bv k0 p0;clear hr bL bK hA hv hl hs hk bW bu hN bv k0 p0;intro cO cf bP bM ci ch cP cg cz bq bj b4 cj ck;refine qbr Tryz.func116 rfl ?_;simp only [Tryz.ntmps116,qd0,Nat.reduceAdd,Nat.reduceSub];gi_wp2;rw [b4.o,bj.o];gi_loopw [9] (fun ix wr=> ∃(k:Nat),k<=r.body.length/\ix=.int .i64 (k:Int)/\Keep (fun b=>b<N+1) W0 wr/\(List.range k).all (qgz (qd3 r.body pos neg) r.body b)=true) (fun i _=>r.body.length-(intOf i).toNat)
 case atStart=>exact⟨0,wC,rfl,Keep.refl _ _,rfl⟩
 case round=>
  obtain⟨k,cZ,rfl,hK,a6⟩:=hrel;have c8:=hK.size;have cY:(0:Int)<=k:=wC
  have bS:=hK.heap ck.o wC;have d2:=qb bS 2 _ rfl;have cW:=qe bS;simp only [zD]at d2;have kE:Keep (fun b=>b<N) w wr:=cj.o.mt.trans (hK.mono fun b _ h=>wC);clear bS;by_cases bU:k<r.body.length
  ·have cJ:(k:Int)<r.body.length:=by omega
   obtain⟨L,hL⟩: ∃L,r.body[k]?=some L:=⟨_,zB bU⟩;obtain⟨bb,off,rfl,hb,sa,p,b2⟩:=bP.o k L hL;have kw:Keep (fun b=>b<n) w wr:=kE.mono fun b _ h=>by have:=bj.o;omega
   have f0:=kw.cell (p 0 _ rfl) hb;have f1:=kw.cell (p 1 _ rfl) hb;have f2:=kw.cell (p 2 _ rfl) hb;have f3:=kw.cell (p 3 _ rfl) hb;have f4:=kw.cell (p 4 _ rfl) hb;have f5:=kw.cell (p 5 _ rfl) hb;have f6:=kw.cell (p 6 _ rfl) hb;simp only [Nat.add_zero]at f0;have cX:bb<wr.heap.size:=by have:=bj.o;omega
   obtain⟨aU,aV,rfl,-,-,-⟩:=id b2;have b6:=zH hL;have aw:=cg.o L b6;have b5:r.body.getD k default=L:=by rw [zJ,hL];rfl
   have R:qgz (qd3 r.body pos neg) r.body b k=if L.kind=3 then qaa b L.left !=qaa b L.right else if L.kind=2 then !decide (L.atom.args.map (qaz b)∈qv neg L.atom.pred L.atom.args.length) else true:=by
    unfold qgz qbm qd3;simp only [b5]
   have ai:(List.range (k+1)).all (qgz (qd3 r.body pos neg) r.body b)=qgz (qd3 r.body pos neg) r.body b k:=by rw [xz,all_append,a6,yW,all_cons,all_nil,xM]
   have u:qgz (qd3 r.body pos neg) r.body b k=false->(List.range r.body.length).all (qgz (qd3 r.body pos neg) r.body b)=false:=fun h=>q1d (yk.2 bU) h;obtain⟨M,hM⟩:=ex (wr.heap.size);obtain⟨W4,aa⟩:=ex (wr.alloc (.cells #[.int .i64 L.kind,.string L.atom.pred,.slice aU L.atom.args.length aV,.bool L.left.var,.string L.left.text,.bool L.right.var,.string L.right.text] 64));have k4:wG wr W4:=by rw [←aa];exact kAl
   have p4:W4.heap[M]?=some (.cells #[.int .i64 L.kind,.string L.atom.pred,.slice aU L.atom.args.length aV,.bool L.left.var,.string L.left.text,.bool L.right.var,.string L.right.text] 64 (0,0)):=by rw [←aa,←hM];exact qh _ _
   have hS: ∀X,Keep (fun b=>b<M+1) W4 X->X.cell? ⟨M,0,none⟩=some (.int .i64 L.kind)/\X.cell? ⟨M,1,none⟩=some (.string L.atom.pred)/\X.cell? ⟨M,2,none⟩=some (.slice aU L.atom.args.length aV)/\X.cell? ⟨M,3,none⟩=some (.bool L.left.var)/\X.cell? ⟨M,4,none⟩=some (.string L.left.text)/\X.cell? ⟨M,5,none⟩=some (.bool L.right.var)/\X.cell? ⟨M,6,none⟩=some (.string L.right.text):=fun X hX=>by
    have q:=hX.heap p4 wC;have c0:=qb q 0 _ rfl;have c1:=qb q 1 _ rfl;have c2:=qb q 2 _ rfl;have c3:=qb q 3 _ rfl;have c4:=qb q 4 _ rfl;have c5:=qb q 5 _ rfl;have c6:=qb q 6 _ rfl;simp only [zD]at c0 c1 c2 c3 c4 c5 c6;exact⟨c0,c1,c2,c3,c4,c5,c6⟩
   have cU:M<W4.heap.size:=qe p4;obtain⟨Wd,au⟩:=ex (W4.drew);have kd:wG W4 Wd:=by rw [←au];exact kDr
   have zd:Wd.heap.size=W4.heap.size:=by rw [←au];rfl
   have z4:W4.heap.size=M+1:=by rw [←aa,←hM];simp
   have cT:M<Wd.heap.size:=wC
   have ar:=hS Wd kd.mt;have aK:Keep (fun b=>b<N+1) W0 Wd:=hK.trans ((k4.trans kd).mt);have am:Keep (fun b=>b<n) w Wd:=kw.trans ((k4.trans kd).mt);have aL:Keep (fun b=>b<w.heap.size) w Wd:=(kE.mono fun b _ h=>by have:=bj.o;omega).trans ((k4.trans kd).mt);have aF:=qak b2 am;have aj:=qan ci.o am;have ag:=qan ch.o am;have b8:n<=Wd.heap.size:=by have:=bj.o;omega
   clear p b2 hL b5 a6 p4;by_cases h2:L.kind=2
   ·rw [zF wC,zI h2]at R;have b7:decide (L.atom.args.map (qaz b)∈qv neg L.atom.pred L.atom.args.length)=decide ((⟨L.atom.pred,L.atom.args.map (qaz b)⟩:qk)∈neg):=by
     rw [yl,qco];simp
    rw [b7]at R;have aX:qq L=L.atom.args:=by unfold qq;rw [zF wC]
    have ao:=aw (.inl h2);rw [aX]at ao;have p:=qr4 (w:=Wd) bM.o aj ag b8 L.atom aF ao;rw [h2]at f0 aa hS ar;clear b7 aX ao;cases hc:decide ((⟨L.atom.pred,L.atom.args.map (qaz b)⟩:qk)∈neg) with
    |true=>
     have bw:=u (by rw [R,hc];rfl);clear R h2;refine qb5 ?_ hK kE kw ai u hM aa k4 hS au kd ar aK am aL aF;clear hK kE kw ai u hM aa k4 hS au kd ar aK am aL aF;intro br bk bD a3 aP aO ad bz aq ae aT c af a5 an aM;refine hd6 ?_ aj ag aw p hc bw;clear aj ag aw p hc bw;intro a4 a2 a0 az bO bs;gi_wp2;rw [ad.o,aO.o];refine qae ?_;refine qw rfl (fun X=>X.cell? ⟨M,0,none⟩=some (.int .i64 2)/\X.cell? ⟨M,1,none⟩=some (.string L.atom.pred)/\X.cell? ⟨M,2,none⟩=some (.slice aU L.atom.args.length aV)/\X.cell? ⟨M,3,none⟩=some (.bool L.left.var)/\X.cell? ⟨M,4,none⟩=some (.string L.left.text)/\X.cell? ⟨M,5,none⟩=some (.bool L.right.var)/\X.cell? ⟨M,6,none⟩=some (.string L.right.text)) [] ?_;rw [ae.o];refine qy [0,1,2,3,4,5,6,7,8] ?_
     iterate 9
      refine tkR (v:=?_) rfl c.o ?_ ?_;rotate_left
      ·rintro Wq ⟨x0,x1,x2,x3,x4,x5,x6⟩;go_simp
       try with_reducible rfl
      try simp only [qz]
     refine qm ?_;refine hoR 9 rfl fun K x=>?_;gi_wp2;refine⟨wH,rfl,(zU.2 az.o).mono ?_⟩;rintro e W1 ⟨v1,rfl,o1,k1⟩;have g:Keep (fun b=>b<M+1) W4 W1:=(aT.o.trans k1).mt;have aD:=aq.o W1 g;have ak:Keep (fun b=>b<w.heap.size) w W1:=an.o.trans k1.mt;have bt:(L.atom.args.map (qaz b)).length<=1073741824:=by rw [zL];obtain⟨_,_,_,h,_⟩:=id aM.o;exact h
     have bx:W1.ownsRow Wd.heap.size 9 1 v1 (L.atom.args.map (qaz b)).length ((L.atom.args.map (qaz b)).map .string):=by rw [zL];exact o1
     have l:=bq.o W1 ak ⟨L.atom.pred,L.atom.args.map (qaz b)⟩ W1.heap.size v1 (qbq bx bt) (zG _);rw [bO.o]at l;obtain⟨a1,c1,rfl⟩:=qj o1;have aG:Keep (fun b=>b<N+1) W0 W1:=af.o.trans k1.mt;have bQ:M<W1.heap.size:=by have:=k1.size;omega
     clear o1 bx bt k1;refine hd5 ?_ aD ak l aG g;clear aD ak l aG g;intro ay aC U aB Y;gi_wp2;refine x.o _ _ (fun _=>ay.o) ?_;refine hoR 10 rfl fun K z=>?_;gi_wp2;refine⟨wH,rfl,(zU.2 U.o).mono ?_⟩;rintro e W2 ⟨rfl,k2⟩;have aE:=aq.o W2 (Y.o.trans k2.mt);have bR:M<W2.heap.size:=by have:=k2.size;omega
     have aH:Keep (fun b=>b<N+1) W0 W2:=aB.o.trans k2.mt;have aJ:Keep (fun b=>b<w.heap.size) w W2:=aC.o.trans k2.mt;clear k2;refine hd3 ?_ aE aH aJ;clear aE aH aJ;intro d aR aS;gi_wp2;refine z.o _ _ (fun _=>d.o) ?_;refine qy [11,12] ?_
     iterate 2
      refine tkR (v:=?_) rfl d.o ?_ ?_;rotate_left
      ·rintro Wq ⟨x0,x1,x2,x3,x4,x5,x6⟩;go_simp
       try with_reducible rfl
      try simp only [qz]
     refine qm ?_;refine qy [13,14,15,16,17,18,19,20,21,22,23,24,25,26,27,28] ?_
     iterate 16
      refine tkS rfl d.o ?_
      try simp only [qz]
     refine qm ?_;refine qy [29] ?_
     iterate 1
      refine tkR (v:=?_) rfl d.o ?_ ?_;rotate_left
      ·rintro Wq ⟨x0,x1,x2,x3,x4,x5,x6⟩;go_simp
       try with_reducible rfl
      try simp only [qz]
     refine qm ?_;refine ql wD (qo ?_);clear x z;gi_wp2;refine yA (v:=.bool false) (by simp [results,Tryz.results116,go_sem]) rfl ⟨by rw [bs.o],?_⟩;exact aS.o
    |false=>
     have ap:(List.range (k+1)).all (qgz (qd3 r.body pos neg) r.body b)=true:=ai.trans (by rw [R,hc];rfl);clear R h2;refine qb5 ?_ hK kE kw ai u hM aa k4 hS au kd ar aK am aL aF;clear hK kE kw ai u hM aa k4 hS au kd ar aK am aL aF;intro br bk bD a3 aP aO ad bz aq ae aT c af a5 an aM;refine hd6 ?_ aj ag aw p hc ap;clear aj ag aw p hc ap;intro a4 a2 a0 az bO aA;gi_wp2;rw [ad.o,aO.o];refine qae ?_;refine qw rfl (fun X=>X.cell? ⟨M,0,none⟩=some (.int .i64 2)/\X.cell? ⟨M,1,none⟩=some (.string L.atom.pred)/\X.cell? ⟨M,2,none⟩=some (.slice aU L.atom.args.length aV)/\X.cell? ⟨M,3,none⟩=some (.bool L.left.var)/\X.cell? ⟨M,4,none⟩=some (.string L.left.text)/\X.cell? ⟨M,5,none⟩=some (.bool L.right.var)/\X.cell? ⟨M,6,none⟩=some (.string L.right.text)) [] ?_;rw [ae.o];refine qy [0,1,2,3,4,5,6,7,8] ?_
     iterate 9
      refine tkR (v:=?_) rfl c.o ?_ ?_;rotate_left
      ·rintro Wq ⟨x0,x1,x2,x3,x4,x5,x6⟩;go_simp
       try with_reducible rfl
      try simp only [qz]
     refine qm ?_;refine hoR 9 rfl fun K x=>?_;gi_wp2;refine⟨wH,rfl,(zU.2 az.o).mono ?_⟩;rintro e W1 ⟨v1,rfl,o1,k1⟩;have g:Keep (fun b=>b<M+1) W4 W1:=(aT.o.trans k1).mt;have aD:=aq.o W1 g;have ak:Keep (fun b=>b<w.heap.size) w W1:=an.o.trans k1.mt;have bt:(L.atom.args.map (qaz b)).length<=1073741824:=by rw [zL];obtain⟨_,_,_,h,_⟩:=id aM.o;exact h
     have bx:W1.ownsRow Wd.heap.size 9 1 v1 (L.atom.args.map (qaz b)).length ((L.atom.args.map (qaz b)).map .string):=by rw [zL];exact o1
     have l:=bq.o W1 ak ⟨L.atom.pred,L.atom.args.map (qaz b)⟩ W1.heap.size v1 (qbq bx bt) (zG _);rw [bO.o]at l;obtain⟨a1,c1,rfl⟩:=qj o1;have aG:Keep (fun b=>b<N+1) W0 W1:=af.o.trans k1.mt;have bQ:M<W1.heap.size:=by have:=k1.size;omega
     clear o1 bx bt k1;refine hd5 ?_ aD ak l aG g;clear aD ak l aG g;intro ay aC U aB Y;gi_wp2;refine x.o _ _ (fun _=>ay.o) ?_;refine hoR 10 rfl fun K z=>?_;gi_wp2;refine⟨wH,rfl,(zU.2 U.o).mono ?_⟩;rintro e W2 ⟨rfl,k2⟩;have aE:=aq.o W2 (Y.o.trans k2.mt);have bR:M<W2.heap.size:=by have:=k2.size;omega
     have aH:Keep (fun b=>b<N+1) W0 W2:=aB.o.trans k2.mt;have aJ:Keep (fun b=>b<w.heap.size) w W2:=aC.o.trans k2.mt;clear k2;refine hd3 ?_ aE aH aJ;clear aE aH aJ;intro d aR aS;gi_wp2;refine z.o _ _ (fun _=>d.o) ?_;refine qy [11,12,13,14,15,16] ?_
     iterate 6
      refine tkR (v:=?_) rfl d.o ?_ ?_;rotate_left
      ·rintro Wq ⟨x0,x1,x2,x3,x4,x5,x6⟩;go_simp
       try with_reducible rfl
      try simp only [qz]
     refine qm ?_;refine qy [17,18,19,20,21,22,23,24,25,26,27] ?_
     iterate 11
      refine tkS rfl d.o ?_
      try simp only [qz]
     refine qm ?_;refine qy [28,29] ?_
     iterate 2
      refine tkR (v:=?_) rfl d.o ?_ ?_;rotate_left
      ·rintro Wq ⟨x0,x1,x2,x3,x4,x5,x6⟩;go_simp
       try with_reducible rfl
      try simp only [qz]
     refine qm ?_;refine ql wD (qo ?_);clear x z;gi_wp2;go_roundw
     case rel=>exact⟨k+1,wC,by go_num,aR.o,aA.o⟩
     case measure=>simp [intOf];omega
   ·by_cases h3:L.kind=3
    ·rw [zI h3]at R;have aX:qq L= [L.left,L.right]:=by unfold qq;rw [zI h3]
     have ao:=aw (.inr h3);rw [aX]at ao;have b0:=ao L.left wE;have b1:=ao L.right wE;rw [qqa b0,qqa b1]at R;have p:=qmy (w:=Wd) bM.o aj ag b8 L.left b0;have l:=fun W (hK:wG Wd W)=>qmy (w:=W) bM.o (qan aj hK.mt) (qan ag hK.mt) (by have:=hK.size;omega) L.right b1;unfold qc3 at p l;rw [h3]at f0 aa hS ar;obtain⟨y1,b9⟩: ∃y,qaz b L.left=y:=⟨_,rfl⟩;obtain⟨y2,ca⟩: ∃y,qaz b L.right=y:=⟨_,rfl⟩;rw [b9]at R p;simp only [ca]at R l;clear aX ao b0 b1 b9 ca;by_cases bm:y1=y2
     ·have bV:=qdv bm;have bw:=u (by rw [R,bm,bne_self_eq_false]);clear R h3 h2 bm;refine qb5 ?_ hK kE kw ai u hM aa k4 hS au kd ar aK am aL aF;clear hK kE kw ai u hM aa k4 hS au kd ar aK am aL aF;intro br bk bD a3 aP aO ad bz aq ae aT c af a5 an aM;refine hd6 ?_ aj ag aw p l bw;clear aj ag aw p l bw;intro a4 a2 a0 az U bs;gi_wp2;rw [ad.o,aO.o];refine qae ?_;refine qw rfl (fun X=>X.cell? ⟨M,0,none⟩=some (.int .i64 3)/\X.cell? ⟨M,1,none⟩=some (.string L.atom.pred)/\X.cell? ⟨M,2,none⟩=some (.slice aU L.atom.args.length aV)/\X.cell? ⟨M,3,none⟩=some (.bool L.left.var)/\X.cell? ⟨M,4,none⟩=some (.string L.left.text)/\X.cell? ⟨M,5,none⟩=some (.bool L.right.var)/\X.cell? ⟨M,6,none⟩=some (.string L.right.text)) [] ?_;rw [ae.o];refine qy [0,1,2,3] ?_
      iterate 4
       refine tkR (v:=?_) rfl c.o ?_ ?_;rotate_left
       ·rintro Wq ⟨x0,x1,x2,x3,x4,x5,x6⟩;go_simp
        try with_reducible rfl
       try simp only [qz]
      refine qm ?_;refine qy [4,5,6,7,8,9,10] ?_
      iterate 7
       refine tkS rfl c.o ?_
       try simp only [qz]
      refine qm ?_;refine qy [11,12,13,14,15,16,17,18,19,20,22,23,24,25] ?_
      iterate 14
       refine tkR (v:=?_) rfl c.o ?_ ?_;rotate_left
       ·rintro Wq ⟨x0,x1,x2,x3,x4,x5,x6⟩;go_simp
        try with_reducible rfl
       try simp only [qz]
      refine qm ?_;refine hoR 21 rfl fun K x=>?_;gi_wp2;refine⟨wH,rfl,(zU.2 az.o).mono ?_⟩;rintro e W1 ⟨rfl,k1⟩;have g:wG W4 W1:=aT.o.trans k1;have aD:=aq.o W1 g.mt;have ak:Keep (fun b=>b<w.heap.size) w W1:=an.o.trans k1.mt;have aG:Keep (fun b=>b<N+1) W0 W1:=af.o.trans k1.mt;have bQ:M<W1.heap.size:=by have:=k1.size;omega
      have aW:=U.o W1 k1;clear k1;refine hd5 ?_ aD ak aW aG g;clear aD ak aW aG g;intro ay aC aY aB Y;gi_wp2;refine x.o _ _ (fun _=>ay.o) ?_;refine hoR 26 rfl fun K z=>?_;gi_wp2;refine⟨wH,rfl,(zU.2 aY.o).mono ?_⟩;rintro e W2 ⟨rfl,k2⟩;have aE:=aq.o W2 ((Y.o.trans k2).mt);have bR:M<W2.heap.size:=by have:=k2.size;omega
      have aH:Keep (fun b=>b<N+1) W0 W2:=aB.o.trans k2.mt;have aJ:Keep (fun b=>b<w.heap.size) w W2:=aC.o.trans k2.mt;clear k2;refine hd3 ?_ aE aH aJ;clear aE aH aJ;intro d aR aS;gi_wp2;refine z.o _ _ (fun _=>d.o) ?_;refine qy [27,28,29] ?_
      iterate 3
       refine tkR (v:=?_) rfl d.o ?_ ?_;rotate_left
       ·rintro Wq ⟨x0,x1,x2,x3,x4,x5,x6⟩;go_simp
        try simp only [bV]
        try with_reducible rfl
       try simp only [qz]
      refine qm ?_;refine ql wD (qo ?_);clear x z;gi_wp2;refine yA (v:=.bool false) (by simp [results,Tryz.results116,go_sem]) rfl ⟨by rw [bs.o],?_⟩;exact aS.o
     ·have bV:=qc1 bm;have ap:(List.range (k+1)).all (qgz (qd3 r.body pos neg) r.body b)=true:=ai.trans (by rw [R];simpa using bm);clear R h3 h2 bm;refine qb5 ?_ hK kE kw ai u hM aa k4 hS au kd ar aK am aL aF;clear hK kE kw ai u hM aa k4 hS au kd ar aK am aL aF;intro br bk bD a3 aP aO ad bz aq ae aT c af a5 an aM;refine hd6 ?_ aj ag aw p l ap;clear aj ag aw p l ap;intro a4 a2 a0 az U aA;gi_wp2;rw [ad.o,aO.o];refine qae ?_;refine qw rfl (fun X=>X.cell? ⟨M,0,none⟩=some (.int .i64 3)/\X.cell? ⟨M,1,none⟩=some (.string L.atom.pred)/\X.cell? ⟨M,2,none⟩=some (.slice aU L.atom.args.length aV)/\X.cell? ⟨M,3,none⟩=some (.bool L.left.var)/\X.cell? ⟨M,4,none⟩=some (.string L.left.text)/\X.cell? ⟨M,5,none⟩=some (.bool L.right.var)/\X.cell? ⟨M,6,none⟩=some (.string L.right.text)) [] ?_;rw [ae.o];refine qy [0,1,2,3] ?_
      iterate 4
       refine tkR (v:=?_) rfl c.o ?_ ?_;rotate_left
       ·rintro Wq ⟨x0,x1,x2,x3,x4,x5,x6⟩;go_simp
        try with_reducible rfl
       try simp only [qz]
      refine qm ?_;refine qy [4,5,6,7,8,9,10] ?_
      iterate 7
       refine tkS rfl c.o ?_
       try simp only [qz]
      refine qm ?_;refine qy [11,12,13,14,15,16,17,18,19,20,22,23,24,25] ?_
      iterate 14
       refine tkR (v:=?_) rfl c.o ?_ ?_;rotate_left
       ·rintro Wq ⟨x0,x1,x2,x3,x4,x5,x6⟩;go_simp
        try with_reducible rfl
       try simp only [qz]
      refine qm ?_;refine hoR 21 rfl fun K x=>?_;gi_wp2;refine⟨wH,rfl,(zU.2 az.o).mono ?_⟩;rintro e W1 ⟨rfl,k1⟩;have g:wG W4 W1:=aT.o.trans k1;have aD:=aq.o W1 g.mt;have ak:Keep (fun b=>b<w.heap.size) w W1:=an.o.trans k1.mt;have aG:Keep (fun b=>b<N+1) W0 W1:=af.o.trans k1.mt;have bQ:M<W1.heap.size:=by have:=k1.size;omega
      have aW:=U.o W1 k1;clear k1;refine hd5 ?_ aD ak aW aG g;clear aD ak aW aG g;intro ay aC aY aB Y;gi_wp2;refine x.o _ _ (fun _=>ay.o) ?_;refine hoR 26 rfl fun K z=>?_;gi_wp2;refine⟨wH,rfl,(zU.2 aY.o).mono ?_⟩;rintro e W2 ⟨rfl,k2⟩;have aE:=aq.o W2 ((Y.o.trans k2).mt);have bR:M<W2.heap.size:=by have:=k2.size;omega
      have aH:Keep (fun b=>b<N+1) W0 W2:=aB.o.trans k2.mt;have aJ:Keep (fun b=>b<w.heap.size) w W2:=aC.o.trans k2.mt;clear k2;refine hd3 ?_ aE aH aJ;clear aE aH aJ;intro d aR aS;gi_wp2;refine z.o _ _ (fun _=>d.o) ?_;refine qy [27,28,29] ?_
      iterate 3
       refine tkR (v:=?_) rfl d.o ?_ ?_;rotate_left
       ·rintro Wq ⟨x0,x1,x2,x3,x4,x5,x6⟩;go_simp
        try simp only [bV]
        try with_reducible rfl
       try simp only [qz]
      refine qm ?_;refine ql wD (qo ?_);clear x z;gi_wp2;go_roundw
      case rel=>exact⟨k+1,wC,by go_num,aR.o,aA.o⟩
      case measure=>simp [intOf];omega
    ·rw [zF h3,zF h2]at R;have ap:(List.range (k+1)).all (qgz (qd3 r.body pos neg) r.body b)=true:=ai.trans R;have cn:(L.kind==2)=false:=by simpa using h2
     have co:(L.kind==3)=false:=by simpa using h3
     clear R;refine qb5 ?_ hK kE kw ai u hM aa k4 hS au kd ar aK am aL aF;clear hK kE kw ai u hM aa k4 hS au kd ar aK am aL aF;intro br bk bD a3 aP aO ad bz aq ae aT c af a5 an aM;refine hd4 ?_ aj ag aw ap;clear aj ag aw ap;intro a4 a2 a0 aA;gi_wp2;rw [ad.o,aO.o];refine qae ?_;refine qw rfl (fun X=>X.cell? ⟨M,0,none⟩=some (.int .i64 L.kind)/\X.cell? ⟨M,1,none⟩=some (.string L.atom.pred)/\X.cell? ⟨M,2,none⟩=some (.slice aU L.atom.args.length aV)/\X.cell? ⟨M,3,none⟩=some (.bool L.left.var)/\X.cell? ⟨M,4,none⟩=some (.string L.left.text)/\X.cell? ⟨M,5,none⟩=some (.bool L.right.var)/\X.cell? ⟨M,6,none⟩=some (.string L.right.text)) [] ?_;rw [ae.o];refine qy [0,1,2,3] ?_
     iterate 4
      refine tkR (v:=?_) rfl c.o ?_ ?_;rotate_left
      ·rintro Wq ⟨x0,x1,x2,x3,x4,x5,x6⟩;go_simp
       try simp only [cn]
       try with_reducible rfl
      try simp only [qz]
     refine qm ?_;refine qy [4,5,6,7,8,9,10] ?_
     iterate 7
      refine tkS rfl c.o ?_
      try simp only [qz]
     refine qm ?_;refine qy [11,12,13,14,15,16] ?_
     iterate 6
      refine tkR (v:=?_) rfl c.o ?_ ?_;rotate_left
      ·rintro Wq ⟨x0,x1,x2,x3,x4,x5,x6⟩;go_simp
       try simp only [co]
       try with_reducible rfl
      try simp only [qz]
     refine qm ?_;refine qy [17,18,19,20,21,22,23,24,25,26,27] ?_
     iterate 11
      refine tkS rfl c.o ?_
      try simp only [qz]
     refine qm ?_;refine qy [28,29] ?_
     iterate 2
      refine tkR (v:=?_) rfl c.o ?_ ?_;rotate_left
      ·rintro Wq ⟨x0,x1,x2,x3,x4,x5,x6⟩;go_simp
       try with_reducible rfl
      try simp only [qz]
     refine qm ?_;refine ql wD (qo ?_);gi_wp2;go_roundw
     case rel=>exact⟨k+1,wC,by go_num,af.o,aA.o⟩
     case measure=>simp [intOf];omega
  ·obtain rfl:k=r.body.length:=by omega
   clear bU;refine hd3 ?_ hK kE a6;clear hK kE a6;intro br bk bN;gi_wp2;refine yA (v:=.bool true) (by simp [results,Tryz.results116,go_sem]) rfl ⟨by rw [bN.o],?_⟩;exact bk.o.mono fun b hb _=>by have:=bj.o;omega
end Go.Proofs
