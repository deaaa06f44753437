/- Parts of the proof. -/
import Derived.Test.YtnponcjnahicnaaGreatDoorPnDToPnJ
import Derived.Laws.FloatArith
set_option linter.unusedSimpArgs false
set_option linter.unusedVariables false
set_option maxRecDepth 100000
set_option maxHeartbeats 1000000
open Go.Proofs.Tryz(prog)
open List(filter_filter filter_map filter_nil foldl_cons length_zipIdx set_cons_succ set_cons_zero zipIdx_append zipIdx_cons zipIdx_nil)
namespace Go.Proofs.P16
open Go.RowKit Go.Ink
attribute [local go_sem] Oper.semAt_some
theorem q4b:qb2 prog 125 3 1 8:=qcl (z:=.int .i64 0) wA wA rfl wC wC
theorem qps:qb2 prog 60 9 1 16:=qcl (z:=.string ⟨#[]⟩) wA wA rfl wC wC
def qbg (K:List ByteArray)(ts:List TermD):List Int:=(ts.zipIdx.filter fun p=>!qb8 K p.1).map fun p=>(p.2:Int)
def qbt (K:List ByteArray)(ts:List TermD):List ByteArray:=qa2 ((ts.filter (qb8 K)).map (·.text))
theorem quw (K:List ByteArray)(ts:List TermD){k:Nat}{t:TermD}(h:ts[k]?=some t):qbg K (ts.take (k+1))=qbg K (ts.take k)++if qb8 K t then [] else [(k:Int)]:=by
 have b:(ts.take k).length=k:=by rw [yB];have:=(zA.1 h).1;omega
 unfold qbg;rw [zh,h,zipIdx_append,yS,zm,b];simp only [Option.toList_some,zipIdx_cons,zipIdx_nil,ye,filter_nil];cases qb8 K t<;>simp
theorem qzn (K:List ByteArray)(ts:List TermD){k:Nat}{t:TermD}(h:ts[k]?=some t):qbt K (ts.take (k+1))=if qb8 K t then (if t.text∈qbt K (ts.take k) then qbt K (ts.take k) else qbt K (ts.take k)++ [t.text]) else qbt K (ts.take k):=by
 unfold qbt;rw [zh,h,yS,zm];simp only [Option.toList_some,ye,filter_nil];cases qb8 K t
 ·simp
 ·simp [qhl]
theorem qk3 (K:List ByteArray)(ts:List TermD):(qbg K ts).length<=ts.length:=by
 unfold qbg;rw [zL];refine zW (yd _ _) ?_;rw [length_zipIdx];exact zG _
theorem qk4 (K:List ByteArray)(ts:List TermD):(qbt K ts).length<=ts.length:=by
 unfold qbt;refine zW (qlv _) ?_;rw [zL];exact yd _ _
structure qc5 where
 lit:Int
 bound:List Int
 new:List ByteArray
 deriving DecidableEq,Inhabited
def qa7 (K:List ByteArray)(L:LitD)(i:Int):qc5:=if L.kind=3 then ⟨i,[],[]⟩ else ⟨i,qbg K L.atom.args,qbt K L.atom.args⟩
def qjv (s:qc5)(bv nv:Value):Value:=.agg #[.int .i64 s.lit,bv,nv]
def qcs (K:List ByteArray)(new:List ByteArray):List ByteArray:=new.foldl (fun acc x=>if x∈acc then acc else acc++ [x]) K
theorem qux (K l:List ByteArray){k:Nat}{x:ByteArray}(h:l[k]?=some x):qcs K (l.take (k+1))=if x∈qcs K (l.take k) then qcs K (l.take k) else qcs K (l.take k)++ [x]:=by
 unfold qcs;rw [zh,h,yk]
 rfl
theorem q4c {w:World}{M:Nat}{K:List ByteArray}(e:SetIn w M K){b o:Nat}{v:Value}(h:w.cell? ⟨b,o,none⟩=some v):b≠M:=by
 rintro rfl;obtain⟨f,c,d,-⟩:=e;simp [World.cell?,d]at h
theorem qqq (n M:Nat)(K:List ByteArray)(s:qc5)(bv nv:Value)(w:World)(y:SetIn w M K)(U:qal n w nv s.new)(ai:n<=w.heap.size):
  Calls prog 212 #[.map (some M),qjv s bv nv] w fun e w'=>e=.returned (.tuple #[])/\SetIn w' M (qcs K s.new)/\Keep (fun b=>b≠M) w w':=by
 obtain⟨i,bd,d⟩:=s;unfold qjv;simp only at U⊢;obtain⟨a,c,rfl,ab,aa,q⟩:=id U;have hM:=y.lt;clear U;refine hd2 ?_ q y;clear q y;intro l j
 go_enter Tryz.func212,Tryz.ntmps212
 go_wp2_with fail
 go_loopw [9] (fun i wr=> ∃k:Nat,k<=d.length/\i=.int .i64 (k:Int)/\Keep (fun b=>b≠M) w wr/\SetIn wr M (qcs K (d.take k))) (fun i _=>d.length-(intOf i).toNat)
 case atStart=>exact⟨0,xz,rfl,kAl,j.o.keep (Keep.alloc (fun _=>True) _ _) wE⟩
 case round=>
  obtain⟨k,hk,rfl,hK,t⟩:=hrel;have ak:=hK.size;by_cases R:k<d.length
  ·have ad:(k:Int)<d.length:=by omega
   have ah:(0:Int)<=k:=xz
   obtain⟨x,X⟩: ∃x,d[k]?=some x:=⟨_,zB R⟩;obtain⟨b,o,rfl,hb,v⟩:=l.o k x X;have z:=q4c j.o v;have f2:=hK.cell v z;simp only [yA]at f2;have ag:b<wr.heap.size:=xz
   obtain⟨W1,aj,f,r,Y⟩:=qh2 (P:=prog) (T:=292) (K:=9) (E:=4) Tryz.underlying292 Tryz.underlying9 t x;rw [←qux K d X]at f;have p:=hK.trans r;clear v r X t Y;refine hd3 ?_ hK f p;clear hK f p;intro g m h;go_wp2_with fail;go_roundw
   case rel=>exact⟨k+1,xz,by go_num,h.o,m.o⟩
   case measure=>simp [intOf];omega
  ·obtain rfl:k=d.length:=by omega
   rw [zi]at t;refine hd2 ?_ hK t;clear hK t;intro g u;go_wp2_with fail;refine xx (yr rfl _ _ _) rfl ?_;exact⟨rfl,u.o,g.o⟩
theorem qao {w:World}{base:Nat}{e:TypeId}{sz n:Nat}{v:Value}{xs:List Value}(h:w.ownsRow base e sz v n xs){b:Nat}(c:v.ownBlock=some b): ∃cs,w.heap[b]?=some (.cells cs e (0,0)):=by
 rcases h.2 with ⟨rfl,_⟩ |⟨g,cap,cur,rfl,_,hg,_⟩
 ·simp [Value.ownBlock]at c
 ·simp [Value.ownBlock]at c;subst c;exact⟨_,hg⟩
theorem qnz (n M:Nat)(K:List ByteArray)(r:RuleD)(sh sb:Value)(i:Nat)(L:LitD)(hL:r.body[i]?=some L)(w:World)(hS:SetIn w M K)(hr:RuleIn n w sh sb r)(hn:n<=w.heap.size):
  Calls prog 211 #[.map (some M),qaz r sh sb,.int .i64 (i:Int)] w fun e w'=> ∃vb vn,e=.returned (.agg #[.int .i64 (i:Int),vb,vn])/\
   w'.ownsRow w.heap.size 3 1 vb (qa7 K L i).bound.length ((qa7 K L i).bound.map (.int .i64))/\w'.ownsRow w.heap.size 9 1 vn (qa7 K L i).new.length ((qa7 K L i).new.map .string)/\Keep (fun b=>b<w.heap.size) w w':=by
 obtain⟨⟨pr,args⟩,body⟩:=r;obtain⟨hh,j⟩:=hr;unfold qaz;simp only at hh j hL⊢;have hM:=hS.lt;obtain⟨ah,ch,rfl,-,-,-⟩:=id hh;obtain⟨ab,cb,rfl,cB,cv,bh⟩:=id j;obtain⟨b,o,rfl,ct,sa,ad,aO⟩:=bh i L hL;obtain⟨aa,ca,rfl,bN,bH,aF⟩:=id aO;have hi:i<body.length:=(zA.1 hL).1;have cx:(i:Int)<body.length:=xz
 have cw:(0:Int)<=i:=xz
 have cu:b<w.heap.size:=xz
 have b2:b<w.heap.size+1:=xz
 have b3:b<w.heap.size+1+1:=xz
 have d0:=ad 0 _ rfl;have d1:=ad 1 _ rfl;have d2:=ad 2 _ rfl;have d3:=ad 3 _ rfl;have d4:=ad 4 _ rfl;have d5:=ad 5 _ rfl;have d6:=ad 6 _ rfl;simp only [Nat.add_zero]at d0;clear ad hh j hL;obtain⟨kd,⟨bl,c⟩,⟨lv,lt⟩,⟨rv,rt⟩⟩:=L;simp only at d0 d1 d2 d3 d4 d5 d6 aO bN bH aF⊢;by_cases h3:kd=3
 ·have hE:qa7 K ⟨kd,⟨bl,c⟩,⟨lv,lt⟩,⟨rv,rt⟩⟩ i=⟨i,[],[]⟩:=by unfold qa7;rw [zI h3]
  subst h3;rw [hE];clear aO aF;refine hd2 ?_ hS hE;clear hS hE;intro aT bx
  go_enter Tryz.func211,Tryz.ntmps211
  go_wp2_with fail;refine zz (v:=.agg #[.int .i64 (i:Int),.slice none 0 0,.slice none 0 0]) (by simp [results,Tryz.results211,go_sem]) rfl ?_;exact⟨_,_,rfl,zj _ _ _ _,zj _ _ _ _,((kAl.trans kAl).trans kAl).trans kAl⟩
 ·have hE:qa7 K ⟨kd,⟨bl,c⟩,⟨lv,lt⟩,⟨rv,rt⟩⟩ i=⟨i,qbg K c,qbt K c⟩:=by unfold qa7;rw [zF h3]
  rw [hE];have ho:=fun t W (h:SetIn W M K)=>qny M K t W h;have cq:(kd==3)=false:=yZ.2 h3;clear bh h3;refine hd4 ?_ hS hE aF ho;clear hS hE aF ho;intro aT bx aX bz
  go_enter Tryz.func211,Tryz.ntmps211
  go_wp2_with fail;refine qj9 (fun W=>Keep (fun b=>b<w.heap.size) w W/\W.heap.size=w.heap.size+1+1+1+1/\W.heap[w.heap.size+1]?=some (.cells #[.int .i64 0,.slice none 0 0,.slice none 0 0] 251 (0,0))/\
   W.heap[w.heap.size+1+1]?=some (.cells #[.int .i64 (i:Int),.slice none 0 0,.slice none 0 0] 251 (0,0))) ⟨((kAl.trans kAl).trans kAl).trans kAl,wB,by simp only [qah,zO];simp,by simp only [qah,zO];simp⟩ ?_
  rintro W0 ⟨k0,z0,a1,a2⟩;refine hd3 ?_ k0 a1 a2;clear k0 a1 a2;intro a0 bu bv
  go_loopw [26] (fun i' wr=> ∃(k:Nat) (vb vn:Value),k<=c.length/\i'=.int .i64 (k:Int)/\Keep (fun b=>b<w.heap.size+1+1) W0 wr/\wr.heap[w.heap.size+1+1]?=some (.cells #[.int .i64 (i:Int),vb,vn] 251 (0,0))/\
   wr.ownsRow W0.heap.size 3 1 vb (qbg K (c.take k)).length ((qbg K (c.take k)).map (.int .i64))/\wr.ownsRow W0.heap.size 9 1 vn (qbt K (c.take k)).length ((qbt K (c.take k)).map .string)) (fun i _=>c.length-(intOf i).toNat)
  case atStart=>exact⟨0,_,_,xz,rfl,Keep.refl _ _,bv.o,zj _ _ _ _,zj _ _ _ _⟩
  case round=>
   obtain⟨k,vb,vn,hk,rfl,hK,hX,ap,aq⟩:=hrel;have cD:=hK.size;have cE:=qe hX;by_cases bQ:k<c.length
   ·have b5:(k:Int)<c.length:=by omega
    have cy:(0:Int)<=k:=xz
    obtain⟨x,hx⟩: ∃x,c[k]?=some x:=⟨_,zB bQ⟩;obtain⟨b4,o4,rfl,cs,q0,q1⟩:=aX.o k x hx;have kw:Keep (fun b=>b<w.heap.size) w wr:=a0.o.trans (hK.mono fun b _ h=>xz);have f0:=kw.cell q0 (show b4<w.heap.size from xz);have f1:=kw.cell q1 (show b4<w.heap.size from xz);have b1:b4<wr.heap.size:=xz
    obtain⟨W1,aE⟩:=ex (wr.alloc (.cells #[.bool x.var,.string x.text] 77));have k1:wD wr W1:=by rw [←aE];exact kAl
    have g1:W1.heap[wr.heap.size]?=some (.cells #[.bool x.var,.string x.text] 77 (0,0)):=by rw [←aE];exact qh _ _
    have cF:=k1.size;have d:=quw K c hx;have f:=qzn K c hx;have aH:=bz.o x W1 (aT.o.keep (kw.trans k1.mt) hM);unfold qc3 at aH;obtain⟨bo,bg⟩: ∃b,qb8 K x=b:=⟨_,rfl⟩;rw [bg]at d f aH;have bK:=qk3 K (c.take k);have bL:=qk4 K (c.take k);rw [yB]at bK bL;clear q0 q1 bg hx;refine qg5 ?_ hK hX ap aq kw aE k1 g1 d f aH;clear hK hX ap aq kw aE k1 g1 d f aH;intro aM aV z R cg aU bD bw am an aZ;go_wp2_with fail;rw [aU.o];refine aZ.o.mono ?_;rintro e W2 ⟨rfl,k2⟩;have cG:=k2.size;have ak:wD wr W2:=bD.o.trans k2;have X:=ak.heap aV.o trivial;have q:=qf z.o ak (fun _ _=>wE);have m:=qf R.o ak (fun _ _=>wE);have cz:w.heap.size+1+1<W2.heap.size:=xz
    have ao:Keep (fun b=>b<w.heap.size+1+1) W0 W2:=aM.o.trans ak.mt;have Y: ∀b,(Value.ownBlock vb=some b∨Value.ownBlock vn=some b)->b≠w.heap.size+1+1:=fun b j=>by
     rcases j with j |j
     ·have:=(zE z.o b j).1;omega
     ·have:=(zE R.o b j).1;omega
    have d:=am.o;have f:=an.o;have c1:=qb X 1 _ rfl;have c2:=qb X 2 _ rfl;simp only [zD]at c1 c2;cases bo
    ·simp only [zy,yx]at d f;obtain⟨v',W3,ai,y,s,g,cap,aP,bI,bj⟩:=qdd (P:=prog) q4b 125 q [.int .i64 (k:Int)] rfl (by simp [Value.oneCell']) xz xz;subst aP;have l:=s.heap X (fun e=>Y _ (.inl e.symm) rfl);have aQ:=qf m s (fun b j e=>by
      obtain⟨c1,t1⟩:=qao q e.symm;obtain⟨c2,t2⟩:=qao m j;rw [t1]at t2;cases t2)
     have d1:=qb l 1 _ rfl;have bG:=qg l 1;simp only [zD]at d1;have bM:=qe l;have af:Keep (fun b=>b<w.heap.size+1+1) W0 (W3.setCell ⟨w.heap.size+1+1,1,none⟩ (.slice (some ⟨g,0,none⟩) ((qbg K (c.take k)).length+1) cap)):=
      (ao.trans (s.mono fun b j h e=>by have:=(zE q b e.symm).1;omega)).trans (kSc)
     have kS:Keep (fun b=>b≠w.heap.size+1+1) W3 (W3.setCell ⟨w.heap.size+1+1,1,none⟩ (.slice (some ⟨g,0,none⟩) ((qbg K (c.take k)).length+1) cap)):=kSc;have p:=qz 1 (.slice (some ⟨g,0,none⟩) ((qbg K (c.take k)).length+1) cap) l;have al:=qf y kS (fun b j=>by have:=(zE y b j).1;omega);have ae:=qf aQ kS (fun b j=>by have:=(zE aQ b j).1;omega);rw [show(qbg K (c.take k)).map (Value.int .i64)++ [Value.int .i64 (k:Int)]=(qbg K (c.take (k+1))).map (.int .i64) from by rw [d,zm];rfl,show(qbg K (c.take k)).length+1=(qbg K (c.take (k+1))).length from by rw [d,zR];rfl]at al;rw [←f]at ae;rw [show(qbg K (c.take k)).length+1=(qbg K (c.take (k+1))).length from by rw [d,zR];rfl]at p af ai;simp only [yJ,set_cons_succ,set_cons_zero]at p;obtain⟨W4,U⟩:=ex (W3.setCell ⟨w.heap.size+1+1,1,none⟩ (.slice (some ⟨g,0,none⟩) (qbg K (c.take (k+1))).length cap));rw [show(qbg K (c.take k)).length+1=(qbg K (c.take (k+1))).length from by rw [d,zR];rfl]at ae;rw [U]at p af al ae;clear kS k2 ak q m y s aQ l X Y ao;refine hd8 ?_ ai p af al ae d f U;clear ai p af al ae d f U;intro ay aw au az aA am an av;go_wp2_with (at_builtin;refine qcd (v:=vb) (u:=.slice (some ⟨W2.heap.size,0,none⟩) 1 1) (v':=.slice (some ⟨g,0,none⟩) (qbg K (c.take (k+1))).length cap) (w':=W3) rfl (.tmp 36) (.tmp 38) 125 rfl rfl rfl ay.o ?_);rw [av.o];go_roundw
     case rel=>exact⟨k+1,_,_,xz,by go_num,au.o,aw.o,az.o,aA.o⟩
     case measure=>simp [intOf];omega
    ·simp only [yg,yO]at d f;have aC:=qs1 W2.heap.size vn (qbt K (c.take k)) x.text W2 (qcc m xz) (zG _);have aG:=k2.heap bw.o trivial;have t1:=qb aG 1 _ rfl;simp only [zD]at t1;obtain⟨bi,aB⟩: ∃b,decide (x.text∈qbt K (c.take k))=b:=⟨_,rfl⟩;rw [aB]at aC;have cA:wr.heap.size<W2.heap.size:=qe aG;cases bi
     ·have ag: ¬x.text∈qbt K (c.take k):=xS aB;rw [zF ag]at f;obtain⟨v',W3,ai,y,s,g,cap,aP,bI,bj⟩:=qdd (P:=prog) qps 60 m [.string x.text] rfl (by simp [Value.oneCell']) xz xz;subst aP;have l:=s.heap X (fun e=>Y _ (.inr e.symm) rfl);have aI:=qf q s (fun b j e=>by
       obtain⟨c1,t1⟩:=qao m e.symm;obtain⟨c2,t2⟩:=qao q j;rw [t1]at t2;cases t2)
      have d1:=qb l 2 _ rfl;have bG:=qg l 2;simp only [zD]at d1;have bM:=qe l;have bO:(qbt K (c.take k)).length+1=(qbt K (c.take (k+1))).length:=by rw [f,zR];rfl
      rw [bO]at ai y;rw [show(qbt K (c.take k)).map Value.string++ [Value.string x.text]=(qbt K (c.take (k+1))).map .string from by rw [f,zm];rfl]at y;rw [←d]at aI;obtain⟨W4,U⟩:=ex (W3.setCell ⟨w.heap.size+1+1,2,none⟩ (.slice (some ⟨g,0,none⟩) (qbt K (c.take (k+1))).length cap));have kS:Keep (fun b=>b≠w.heap.size+1+1) W3 W4:=by rw [←U];exact kSc
      have af:Keep (fun b=>b<w.heap.size+1+1) W0 W4:=
       (ao.trans (s.mono fun b j h e=>by have:=(zE m b e.symm).1;omega)).trans (kS.mono fun b _ h=>xz)
      have p:=qz 2 (.slice (some ⟨g,0,none⟩) (qbt K (c.take (k+1))).length cap) l;have ae:=qf y kS (fun b j=>by have:=(zE y b j).1;omega);have al:=qf aI kS (fun b j=>by have:=(zE aI b j).1;omega);rw [U]at p;simp only [yJ,set_cons_succ,set_cons_zero]at p;clear kS k2 ak q m y s aI l X Y ao aB aG;refine qc9 ?_ ai p af al ae d f U aC ag;clear ai p af al ae d f U aC ag;intro ay aw au az aA am an av ax aY;go_wp2_with fail;refine ax.o.mono ?_;rintro e w9 ⟨rfl,aj⟩;have aj:=aj.symm;subst aj;go_wp2_with (at_builtin;refine qcd (v:=vn) (u:=.slice (some ⟨W2.heap.size,0,none⟩) 1 1) (v':=.slice (some ⟨g,0,none⟩) (qbt K (c.take (k+1))).length cap) (w':=W3) rfl (.tmp 48) (.tmp 51) 60 rfl rfl rfl ay.o ?_);rw [av.o];go_roundw
      case rel=>exact⟨k+1,_,_,xz,by go_num,au.o,aw.o,az.o,aA.o⟩
      case measure=>simp [intOf];omega
     ·have ag:x.text∈qbt K (c.take k):=yD aB;rw [zI ag]at f;rw [←d]at q;rw [←f]at m;clear k2 ak Y aB aG;refine hd8 ?_ X q m ao d f aC ag;clear X q m ao d f aC ag;intro aW a3 a4 aS am an ax aY;go_wp2_with fail;refine ax.o.mono ?_;rintro e w9 ⟨rfl,aj⟩;have aj:=aj.symm;subst aj;go_wp2_with fail;go_roundw
      case rel=>exact⟨k+1,_,_,xz,by go_num,aS.o,aW.o,a3.o,a4.o⟩
      case measure=>simp [intOf];omega
   ·obtain rfl:k=c.length:=by omega
    rw [zi]at ap aq;have hR:=hK.heap bu.o (show w.heap.size+1<w.heap.size+1+1 from xz);have c0:=qb hX 0 _ rfl;have c1:=qb hX 1 _ rfl;have c2:=qb hX 2 _ rfl;have e0:=qb hR 0 _ rfl;have e1:=qb hR 1 _ rfl;have e2:=qb hR 2 _ rfl;have e3:=qg hR 0;have e4:=qg hR 1;have e5:=qg hR 2;simp only [zD]at c0 c1 c2 e0 e1 e2;have bP:w.heap.size+1<wr.heap.size:=xz
    obtain⟨a5,a9,rfl⟩:=qi ap;obtain⟨a6,ba,rfl⟩:=qi aq;refine hd5 ?_ hK hX ap aq hR;clear hK hX ap aq hR;intro aM aV z R cf;go_wp2_with fail;refine zz (v:=.agg #[.int .i64 (i:Int),.slice a5 (qbg K c).length a9,.slice a6 (qbt K c).length ba]) (by simp [results,Tryz.results211,go_sem,e0,e1,e2,bP]) rfl ?_;have kS:Keep (fun b=>b≠w.heap.size+1) wr (((wr.setCell ⟨w.heap.size+1,0,none⟩ (.int .i64 (i:Int))).setCell ⟨w.heap.size+1,1,none⟩ (.slice a5 (qbg K c).length a9)).setCell ⟨w.heap.size+1,2,none⟩ (.slice a6 (qbt K c).length ba)):=
     ((kSc).trans (kSc)).trans (kSc)
    exact⟨_,_,rfl,(qf z.o kS (fun b j=>by have:=(zE z.o b j).1;omega)).mono xz,(qf R.o kS (fun b j=>by have:=(zE R.o b j).1;omega)).mono xz,
     (a0.o.trans (aM.o.mono fun b _ h=>xz)).trans (kS.mono fun b _ h=>xz)⟩
def qir (ts:List TermD):List ByteArray:=qa2 ((ts.filter (·.var)).map (·.text))
theorem qxe (K:List ByteArray)(ts:List TermD):(qir ts).all (fun x=>decide (x∈K))=!ts.any (qb8 K):=by
 rw [yt,yL,xI,xY];unfold qir qb8;simp only [qqb,yK,yU,zT,zV,xI,yP,not_and,Classical.not_not];constructor
 ·intro h t b c;exact h _ ⟨t,⟨b,c⟩,rfl⟩
 ·rintro h x ⟨t,⟨b,c⟩,rfl⟩;exact h t b c
def qs2 (K vs:List ByteArray):List ByteArray:=vs.filter fun x=>!decide (x∈K)
theorem quy (p:ByteArray->Bool)(l:List ByteArray):qa2 (l.filter p)=(qa2 l).filter p:=by
 have h: ∀n,∀l:List ByteArray,l.length=n->qa2 (l.filter p)=(qa2 l).filter p:=by
  intro n
  induction n with
  |zero=>intro l e;have:=yn e;subst this;rfl
  |succ n ih=>
   intro l e;obtain⟨x,g⟩: ∃x,l[n]?=some x:=⟨_,zB xz⟩;have f:l=l.take n++ [x]:=by
    have:=zh (l:=l) (i:=n);rw [g,yw xz]at this;exact this
   have c:=ih (l.take n) (by rw [yB];omega);rw [f,yS,qhl];by_cases b:p x=true
   ·rw [show [x].filter p= [x]from by simp [b],qhl,c];by_cases d:x∈qa2 (l.take n)
    ·rw [zI d,zI (yU.2 ⟨d,b⟩)]
    ·rw [zF d,zF (fun h=>d (yU.1 h).1),yS];simp [b]
   ·rw [show [x].filter p= []from by simp [b],yO,c];split
    ·rfl
    ·rw [yS];simp [b]
 exact h _ l rfl
theorem qzo (K:List ByteArray)(ts:List TermD):qs2 K (qir ts)=qbt K ts:=by
 unfold qs2 qir qbt qb8;rw [←quy]
 congr 1
 rw [filter_map]
 congr 1
 rw [filter_filter]
 congr 1
 funext t
 simp only [Function.comp];cases t.var<;>simp
theorem qzp {K:List ByteArray}{ts:List TermD}{x:ByteArray}(h:x∈qbt K ts):x∉K:=by
 unfold qbt at h;rw [qqb]at h;simp only [yK,yU,qb8,zV,xI,yP]at h;obtain⟨t,⟨_,_,h⟩,rfl⟩:=h;exact h
theorem qzq: ∀(new K:List ByteArray),new.Nodup->(∀x,x∈new->x∉K)->qcs K new=K++new:=by
 intro new
 induction new with
 |nil=>intro K _ _;simp [qcs]
 |cons x r ih=>
  intro K b c;rw [xR]at b;unfold qcs;rw [foldl_cons,zF (c x wB)];have:=ih (K++ [x]) b.2 (fun y d e=>by
   rcases zn.1 e with h |h
   ·exact c y (by simp [d]) h
   ·simp only [zl]at h;subst h;exact b.1 d)
  unfold qcs at this;rw [this];simp
theorem qxf (K:List ByteArray)(L:LitD)(i:Int):qcs K (qa7 K L i).new=K++(qa7 K L i).new:=by
 unfold qa7;split
 ·simp [qcs]
 ·exact qzq _ _ (qjz _) (fun x b=>qzp b)
end Go.Proofs.P16
namespace Go.Flt
open Ieee
abbrev D:=Ieee.double
theorem qqr:D.binade=4503599627370496:=wC
theorem qzr:D.infRung=9218868437227405312:=wC
theorem q4d:D.signWeight=9223372036854775808:=wC
theorem qs3:D.leastPlace= -1074:=wC
theorem q4e:(D.fractionBits:Int)=52:=wC
def rne (n g:Nat):Nat:=n/g+(decide (g<2*(n%g)) ||(g==2*(n%g)&&n/g%2==1)).toNat
theorem q5d (s:Bool)(n d:Nat):Toward.even.cut s n d=rne n (2^d):=by
 unfold Toward.cut rne;simp only [Nat.one_shiftLeft];by_cases h:d<=n.log2+2
 ·rw [xP h]
 ·rw [Nat.min_eq_right xz];have b:n<2^(n.log2+1):=Nat.lt_log2_self;have c:2*2^(n.log2+1)=2^(n.log2+2):=by rw [Nat.pow_succ 2 (n.log2+1)];omega
  have e:2^(n.log2+2)<=2^d:=Nat.pow_le_pow_right xz xz;rw [Nat.div_eq_of_lt (show n<2^(n.log2+2) from xz),Nat.div_eq_of_lt (show n<2^d from xz),Nat.mod_eq_of_lt (show n<2^(n.log2+2) from xz),Nat.mod_eq_of_lt (show n<2^d from xz)];rw [zM xz,zM xz,yZ.2 (show(2^(n.log2+2))≠2*n from xz),yZ.2 (show(2^d)≠2*n from xz)]
theorem qn0 {n1 c n2 d:Nat}(g:0<c)(k:0<d)(h:n1*d<=n2*c):rne n1 c<=rne n2 d:=by
 have i:=Nat.div_add_mod n1 c;have j:=Nat.div_add_mod n2 d;have q:=Nat.mod_lt n1 g;have r:=Nat.mod_lt n2 k;unfold rne;generalize hq1:n1/c=q1 at*;generalize hq2:n2/d=q2 at*;generalize hm1:n1%c=m1 at*;generalize hm2:n2%d=m2 at*;have l: ∀b:Bool,b.toNat<=1:=fun b=>by cases b<;>simp
 have m:q1<=q2:=by
  rcases yX q2 q1 with hlt |hge
  ·exfalso;have f:(q2+1)*c*d<=n1*d:=yV _ (by
    rw [←i];have:=Nat.mul_le_mul_left c (show q2+1<=q1 from hlt);rw [xK (q2+1) c];omega)
   have a2:n2*c<(q2+1)*c*d:=by
    have:n2<(q2+1)*d:=by rw [←j,xH,xK q2 d];omega
    have:=Nat.mul_lt_mul_of_pos_right this g;rw [Nat.mul_right_comm]at this;exact this
   omega
  ·exact hge
 rcases yX q1 q2 with hlt |hge
 ·have:=l (decide (c<2*m1) ||(c==2*m1&&q1%2==1));omega
 ·obtain rfl:q1=q2:=by omega
  have p:m1*d<=m2*c:=by
   rw [←i,←j,xH,xH]at h;have:c*q1*d=d*q1*c:=by rw [Nat.mul_right_comm,xK c d,Nat.mul_right_comm]
   omega
  refine Nat.add_le_add_left ?_ _;cases e:(decide (c<2*m1) ||(c==2*m1&&q1%2==1)) with
  |false=>simp
  |true=>
   have key:(decide (d<2*m2) ||(d==2*m2&&q1%2==1))=true:=by
    simp only [y8,zV,zT,xB]at e⊢;rcases e with e |⟨e,ho⟩
    ·left;have f:c*d<2*m1*d:=Nat.mul_lt_mul_of_pos_right e k
     have a2:d*c<2*m2*c:=by
      rw [xK d c,yc 2 m2 c];rw [yc]at f;omega
     exact Nat.lt_of_mul_lt_mul_right a2
    ·have f:c*d=2*m1*d:=by rw [←e]
     have a2:d*c<=2*m2*c:=by
      rw [xK d c,yc 2 m2 c];rw [yc]at f;omega
     have a3:=Nat.le_of_mul_le_mul_right a2 g;rcases yX d (2*m2) with hl |hg
     ·exact .inl hl
     ·exact .inr ⟨xz,ho⟩
   rw [key];exact zG _
theorem qjw (k:Nat){g:Nat}(h:0<g):rne (k*g) g=k:=by
 unfold rne;rw [Nat.mul_div_cancel _ h,Nat.mul_mod_left];rw [zM xz,yZ.2 xz]
 rfl
theorem q5e {n g k:Nat}(h:0<g)(b:n<=k*g):rne n g<=k:=by
 have:=qn0 (n1:=n) (n2:=k*g) h h (yV _ b)
 rwa [qjw k h] at this
theorem q5f {n g k:Nat}(h:0<g)(b:k*g<=n):k<=rne n g:=by
 have:=qn0 (n1:=k*g) (n2:=n) h h (yV _ b)
 rwa [qjw k h] at this
def qhb (m:Nat)(p:Int):Nat:=D.nearest false m p
def qc6 (m:Nat)(p:Int):Int:=max (p+m.log2-52) (-1074)
theorem qmy {m:Nat}(p:Int)(h:m≠0):qhb m p=min ((qc6 m p+1074).toNat*4503599627370496+rne (m*2^(p-qc6 m p).toNat) (2^(qc6 m p-p).toNat)) 9218868437227405312:=by
 unfold qhb Format.nearest;rw [zF h];simp only [qqr,qzr,qs3,q4e,q5d,Nat.shiftLeft_eq];unfold Format.word qc6;simp only [zy,yx]
 rfl
theorem qmh (p:Int):qhb 0 p=0:=rfl
theorem q2a (m:Nat)(p:Int):qhb m p<=9218868437227405312:=by
 by_cases h:m=0
 ·subst h;rw [qmh];decide
 ·rw [qmy p h];exact Nat.min_le_right _ _
theorem qe1 (k:Nat):0<2^k:=Nat.two_pow_pos k
theorem qzs {m:Nat}(h:m≠0):2^m.log2<=m:=Nat.log2_self_le h
theorem qo0 (m:Nat):m<2^(m.log2+1):=Nat.lt_log2_self
theorem qzt {m1 m2 a b:Nat}(c:m1≠0)(d:m2≠0)(h:m1*2^a<=m2*2^b):m1.log2+a<=m2.log2+b:=by
 have e:2^(m1.log2+a)<=m1*2^a:=by rw [yo];exact yV _ (qzs c)
 have f:m2*2^b<2^(m2.log2+1+b):=by rw [yo];exact Nat.mul_lt_mul_of_pos_right (qo0 m2) (qe1 b)
 have:=(Nat.pow_lt_pow_iff_right (show 1<2 from xz)).1 (show 2^(m1.log2+a)<2^(m2.log2+1+b) from xz);omega
theorem qn1 {m1 m2 a b c d:Nat}(h:m1*2^a<=m2*2^b)(e:a+d=b+c):m1*2^c<=m2*2^d:=by
 have f:m1*2^c*2^b<=m2*2^d*2^b:=by
  rw [yc,←yo,yc,←yo,show c+b=a+d from xz,show d+b=b+d from xz,yo,yo,←yc,←yc];exact yV _ h
 exact Nat.le_of_mul_le_mul_right f (qe1 b)
theorem qzu (e c d f g:Nat)(h:c<=d)(i:c<d->f<=2*e/\e<=g)(j:c=d->f<=g):c*e+f<=d*e+g:=by
 rcases yX c d with hl |hg
 ·obtain⟨a,b⟩:=i hl;have:=yV e (show c+1<=d from hl);rw [xH]at this;omega
 ·obtain rfl:c=d:=by omega
  have:=j rfl;omega
theorem qzv (a b:Nat)(c:0<b)(h:b<=a):(a/b-1)*b+(b+a%b)=a:=by
 have d:=Nat.div_add_mod a b;have e:1<=a/b:=(Nat.le_div_iff_mul_le c).2 xz;have:=Nat.succ_mul (a/b-1) b;rw [show(a/b-1).succ=a/b from xz,xK]at this;omega
theorem q5g {m1:Nat}{p1 b e:Int}(c:b=qc6 m1 p1)(d:b<e)(f:m1≠0):rne (m1*2^(p1-b).toNat) (2^(b-p1).toNat)<=2*2^52:=by
 refine q5e (qe1 _) ?_;have:m1*2^(p1-b).toNat<=2^(m1.log2+1+(p1-b).toNat):=by rw [yo];exact yV _ (Nat.le_of_lt (qo0 m1))
 refine zW this ?_;rw [←Nat.pow_add_one',←yo];refine Nat.pow_le_pow_right xz ?_;unfold qc6 at c;omega
theorem q5h {m2:Nat}{p2 d b:Int}(c:b=qc6 m2 p2)(f: -1074<=d)(g:d<b)(e:m2≠0):2^52<=rne (m2*2^(p2-b).toNat) (2^(b-p2).toNat):=by
 refine q5f (qe1 _) ?_;have:2^(m2.log2+(p2-b).toNat)<=m2*2^(p2-b).toNat:=by rw [yo];exact yV _ (qzs e)
 refine zW ?_ this;rw [←yo];refine Nat.pow_le_pow_right xz ?_;unfold qc6 at c;omega
theorem b52:2^52=4503599627370496:=wC
theorem qih {m1 m2:Nat}{p1 p2 K:Int}(t:K<=p1)(u:K<=p2)(h:m1*2^(p1-K).toNat<=m2*2^(p2-K).toNat):qhb m1 p1<=qhb m2 p2:=by
 by_cases j:m1=0
 ·subst j;rw [qmh];exact ya _
 by_cases k:m2=0
 ·subst k;exfalso;have:0<m1*2^(p1-K).toNat:=Nat.mul_pos xz (qe1 _);omega
 have s:=qzt j k h;rw [qmy p1 j,qmy p2 k,←b52];have m:qc6 m1 p1<=qc6 m2 p2:=by unfold qc6;omega
 have f: -1074<=qc6 m1 p1:=by unfold qc6;omega
 obtain⟨g,d⟩: ∃l,l=qc6 m1 p1:=⟨_,rfl⟩;obtain⟨i,e⟩: ∃l,l=qc6 m2 p2:=⟨_,rfl⟩;rw [←d]at m f;rw [←e]at m;rw [←d,←e];have r:=qzu (2^52) (g+1074).toNat (i+1074).toNat (rne (m1*2^(p1-g).toNat) (2^(g-p1).toNat)) (rne (m2*2^(p2-i).toNat) (2^(i-p2).toNat)) xz
  (fun q=>⟨q5g d (show g<i from xz) j,q5h e f xz k⟩)
  (fun p=>by
   obtain rfl:g=i:=xz
   refine qn0 (qe1 _) (qe1 _) ?_;rw [yc,yc,←yo,←yo];exact qn1 h xz)
 exact(fun(a b c:Nat) (h:a<=b)=>(by omega:min a c<=min b c)) _ _ _ r
def mg (a:Nat):Nat:=if a<4503599627370496 then a else 4503599627370496+a%4503599627370496
def sh (a:Nat):Nat:=if a<4503599627370496 then 0 else a/4503599627370496-1
theorem qiw {a:Nat}(h:a<9218868437227405312):D.read a=.number false (mg a) (-1074+sh a):=by
 unfold Format.read;simp only [qqr,qzr,q4d,qs3];rw [Nat.mod_eq_of_lt (show a<9223372036854775808 from xz),Nat.div_eq_of_lt (show a<9223372036854775808 from xz)];unfold mg sh;by_cases b:a<4503599627370496
 ·simp only [b,yg];rfl
 ·simp only [b,h,yg,yx]
  rfl
theorem qkh {a:Nat}(h:0<a):mg a≠0:=by unfold mg;split<;>omega
theorem qs4 {a:Nat}:(mg a).log2<=52:=by
 have:mg a<2^53:=by
  unfold mg;have:=Nat.mod_lt a (show 0<4503599627370496 from wC);split<;>omega
 by_cases b:mg a=0
 ·rw [b];decide
 ·have:=(Nat.log2_lt b).2 this;omega
theorem qmi {a:Nat}(h:a<9218868437227405312):qhb (mg a) (-1074+sh a)=a:=by
 by_cases l:a=0
 ·subst l;decide
 rw [qmy _ (qkh xz)];have b:=qs4 (a:=a);by_cases d:a<4503599627370496
 ·have c:mg a=a:=by unfold mg;rw [zI d]
  have e:sh a=0:=by unfold sh;rw [zI d]
  rw [c]at b⊢;rw [e];have f:qc6 a (-1074+(0:Nat))= -1074:=by unfold qc6;omega
  rw [f];have:=qjw a (g:=1) xz;simp only [yA]at this;simp [this];omega
 ·have c:mg a=4503599627370496+a%4503599627370496:=by unfold mg;rw [zF d]
  have e:sh a=a/4503599627370496-1:=by unfold sh;rw [zF d]
  have i:(mg a).log2=52:=by
   have:52<=(mg a).log2:=(Nat.le_log2 xz).2 (by rw [c];omega);omega
  have f:qc6 (mg a) (-1074+(sh a:Nat))= -1074+(sh a:Nat):=by unfold qc6;omega
  rw [f];have j:=qjw (mg a) (g:=1) xz;simp only [Int.sub_self,Int.toNat_zero,Nat.pow_zero,yA]at j⊢;have k:((-1074+(sh a:Int))+1074).toNat=sh a:=xz
  rw [j,k,c,e,qzv a 4503599627370496 wC xz];exact xP (Nat.le_of_lt h)
end Go.Flt
