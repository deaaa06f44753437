/- Parts of the proof. -/
import Derived.Test.YtnponcjnahicnaaGreatProg
import Derived.Test.YtnponcjnahicnaaGreatPnKToFlt
import Derived.Deep.RegionHeld3
import Derived.Laws.EntriesVeiled
import Derived.Test.YtnponcjnahicnaaGreatHdToKp
import Derived.Test.YtnponcjnahicnaaGreatDataToOwnB
import Derived.Test.YtnponcjnahicnaaGreatPnDToPnJ
import Derived.Laws.Cover3
import Derived.WalkKit
import Derived.Test.YtnponcjnahicnaaGreatHoistToRowC
set_option linter.unusedSimpArgs false
set_option linter.unusedVariables false
open Go.Proofs.Tryz(prog)
open List(eq_nil_of_length_eq_zero flatMap_append foldl_append getElem?_append_left getElem?_append_right getElem?_eq_getElem length_map length_set length_take map_append mem_append mem_cons mem_filter mem_flatMap mem_iff_getElem? mem_map nil_append not_mem_nil set_append_right take_add_one take_length take_set)
namespace Go.Proofs.P16
open Go.RowKit Go.Ink
attribute [local go_sem] Oper.semAt_some
def qbl (ls:List LitD):List ByteArray:=ls.foldl (fun K L=>if L.kind=1 then K++qb1 K L.atom.args else K) []
theorem qn7 (ls:List LitD){k:Nat}{L:LitD}(h:ls[k]?=some L):qbl (ls.take (k+1))=if L.kind=1 then qbl (ls.take k)++qb1 (qbl (ls.take k)) L.atom.args else qbl (ls.take k):=by
 unfold qbl;rw [take_add_one,h,foldl_append]
 rfl
def qd6 (r:RuleD):Bool:=!r.head.args.any (qcf (qbl r.body))&&r.body.all (qcm (qbl r.body))
theorem qn8 (w:World):(Instr.makeMap 237 none).run prog w=.ok (.map (some w.heap.size)) (w.alloc (.map #[] 0)):=by
 simp [Instr.makeMap,Sem.run_bind,run_underlying Tryz.underlying237,Result.andThen,run_newObj_alloc]
set_option maxRecDepth 100000 in
theorem qt9 (n M B:Nat)(K:List ByteArray)(L:LitD)(sa:Value)(w:World)(hS:SetIn w M K)(hB:w.cell? ⟨B,0,none⟩=some (.map (some M)))(ha:qaj n w sa L.atom.args)(hn:n<=w.heap.size):Calls prog 190 #[qfb L sa,.pointer (some ⟨B,0,none⟩)] w fun e w'=>e=.returned (.bool (!qcm K L))/\Keep (fun b=>b<w.heap.size) w w':=by
 have h:=fun W (hK:Keep (fun _=>True) w W)=>qru n M K L sa W (hS.keep hK trivial) (qas ha (hK.mono fun _ _ _=>trivial)) (by have:=hK.size;omega);obtain⟨aa,ca,rfl,-,-,-⟩:=id ha;obtain⟨k,⟨pr,args⟩,⟨lv,lt⟩,⟨rv,rt⟩⟩:=L;unfold qfb at h⊢;simp only at h⊢;obtain⟨b1,hb1⟩: ∃b,qcm K ⟨k,⟨pr,args⟩,⟨lv,lt⟩,⟨rv,rt⟩⟩=b:=⟨_,rfl⟩;simp only [hb1]at h;rw [hb1];have l0:=World.block_lt_of_cell? w _ hB;simp only at l0;clear ha hS;refine hd2 ?_ h hb1;clear h hb1;intro Xh Xhb1
 go_enter Tryz.func190,Tryz.ntmps190
 go_wp2_with fail;refine(Xh.o _ kAl).mono ?_;rintro e w1 ⟨rfl,k1⟩;go_wp2_with fail;go_ret;exact⟨rfl,kAl.trans (k1.mono fun b hb _=>by simp;omega)⟩
set_option maxRecDepth 100000 in
set_option maxHeartbeats 1000000 in
theorem q3z (n:Nat)(r:RuleD)(sh sb:Value)(w:World)(hr:RuleIn n w sh sb r)(hn:n<=w.heap.size):Calls prog 170 #[qbf r sh sb] w fun e w'=>e=.returned (.bool (qd6 r))/\Keep (fun b=>b<w.heap.size) w w':=by
 have hstep:=fun i L (hL:r.body[i]?=some L) M K W (hS:SetIn W M K) (hK:Keep (fun b=>b<w.heap.size) w W)=>qos n M K r sh sb i L hL W hS (hr.keep (hK.mono fun b _ h=>by omega)) (by have:=hK.size;omega);have hE:qd6 r=(!r.head.args.any (qcf (qbl r.body))&&r.body.all (qcm (qbl r.body))):=rfl;obtain⟨hh,hb⟩:=id hr;have hhas:=fun M K W (hS:SetIn W M K) (hK:Keep (fun b=>b<w.heap.size) w W)=>qhy (gf:=172) (bs:= #[.map (some M)]) (lb:= #[]) (qc6 Tryz.func172 (by kernel_rfl) rfl) (qcf K) n sh r.head.args W (qas hh (hK.mono fun b _ h=>by omega)) (by have:=hK.size;omega)
  (fun x _ W2 hK2=>(qor M K x W2 (hS.keep hK2 (show M<W.heap.size from hS.lt))).mono fun e w' ⟨e1,k1⟩=>⟨e1,k1.mono fun _ _ _=>trivial⟩)
 have hnot:=fun B M K W (hS:SetIn W M K) (hK:Keep (fun b=>b<w.heap.size) w W) (hB:W.cell? ⟨B,0,none⟩=some (.map (some M)))=>qkv (gf:=190) (bs:= #[]) (lb:= #[.pointer (some ⟨B,0,none⟩)]) (qc6 Tryz.func190 (by kernel_rfl) rfl) (fun L=>!qcm K L) n sb r.body W (qim hb (hK.mono fun b _ h=>by omega)) (by have:=hK.size;omega)
  (fun x _ W2 hK2 sa hsa=>qt9 n M B K x sa W2 (hS.keep hK2 (show M<W.heap.size from hS.lt)) (hK2.cell hB (World.block_lt_of_cell? W _ hB)) hsa (by have:=hK.size;have:=hK2.size;omega))
 simp only [qk3]at hnot;obtain⟨⟨pr,args⟩,body⟩:=r;unfold qbf at hstep⊢;simp only at hstep hE hh hb hhas hnot⊢;obtain⟨aa,ca,rfl,-,-,-⟩:=id hh;obtain⟨ab,cb,rfl,hlb,hcb,heb⟩:=id hb;have hmm:=fun w=>qn8 w;clear hh hb hr;refine hd5 ?_ hstep hE hhas hnot heb;clear hstep hE hhas hnot heb;intro Xhstep XhE Xhhas Xhnot Xheb
 go_enter Tryz.func170,Tryz.ntmps170
 go_wp2_with fail;refine qky (fun W=>Keep (fun b=>b<w.heap.size) w W/\W.heap.size=w.heap.size+1+1+1/\W.heap[w.heap.size]?=some (.cells #[.string pr,.slice aa args.length ca,.slice ab body.length cb] 27 (0,0))/\
  SetIn W (w.heap.size+1) []/\W.heap[w.heap.size+1+1]?=some (.cells #[.map (some (w.heap.size+1))] 237 (0,0))) ⟨(kAl.trans kAl).trans kAl,by simp,by simp only [qah,World.size_alloc];simp;omega,by
   refine(SetIn.keep (w:=(w.alloc (.cells #[.string pr,.slice aa args.length ca,.slice ab body.length cb] 27)).alloc (.map #[] 0)) ?_ (Keep.alloc (fun _=>True) _ _) trivial);have:=qmm (w.alloc (.cells #[.string pr,.slice aa args.length ca,.slice ab body.length cb] 27))
   simpa using this,by simp only [qah,World.size_alloc];simp⟩ ?_
 rintro W0 ⟨k0,z0,a1,s0,a2⟩;clear hmm;obtain⟨N,hN⟩:=ex (w.heap.size);rw [hN]at k0 z0 a1 s0 a2⊢;have hnN:n<=N:=by omega
 refine hd5 ?_ k0 a1 s0 a2 hN;clear k0 a1 s0 a2 hN;intro Xk0 Xa1 Xs0 Xa2 XhN
 go_loopw [10] (fun i' wr=> ∃k:Nat,k<=body.length/\i'=.int .i64 (k:Int)/\Keep (fun b=>b<N+1+1+1/\b≠N+1) W0 wr/\SetIn wr (N+1) (qbl (body.take k))) (fun i _=>body.length-(intOf i).toNat)
 case atStart=>exact⟨0,by omega,rfl,Keep.refl _ _,Xs0.o⟩
 case round=>
  obtain⟨k,hk,rfl,hK,hS⟩:=hrel;have hsz:=hK.size;have b1:=hK.heap Xa1.o (show N<N+1+1+1/\N≠N+1 by omega);have b2:=hK.heap Xa2.o (show N+1+1<N+1+1+1/\N+1+1≠N+1 by omega);have c0:=qb b1 0 _ rfl;have c1:=qb b1 1 _ rfl;have c2:=qb b1 2 _ rfl;have c3:=qb b2 0 _ rfl;simp only [Nat.zero_add]at c0 c1 c2 c3;have hMl:=hS.lt;have hNl:N<wr.heap.size:=by omega
  have hBl:N+1+1<wr.heap.size:=by omega
  have kw:Keep (fun b=>b<N) w wr:=Xk0.o.trans (hK.mono fun b _ h=>⟨by omega,by omega⟩);by_cases hlt:k<body.length
  ·have hlt1:(k:Int)<body.length:=by omega
   have hk0:(0:Int)<=k:=by omega
   obtain⟨x,hx⟩: ∃x,body[k]?=some x:=⟨_,getElem?_eq_getElem hlt⟩;obtain⟨b,o,rfl,hb,sa,hcl,hsa⟩:=Xheb.o k x hx;obtain⟨asa,csa,rfl,hlx,-,-⟩:=id hsa;have g: ∀j v,(qaf x (.slice asa x.atom.args.length csa))[j]?=some v->wr.cell? ⟨b,o+k*7+j,none⟩=some v:=fun j v h=>kw.cell (hcl j v h) (show b<N by omega);have d0:=g 0 _ rfl;have d1:=g 1 _ rfl;have d2:=g 2 _ rfl;have d3:=g 3 _ rfl;have d4:=g 4 _ rfl;have d5:=g 5 _ rfl;have d6:=g 6 _ rfl;simp only [Nat.add_zero]at d0;have hbw:b<wr.heap.size:=by omega
   have hfs:=qn7 body hx;obtain⟨W1,hW1⟩:=ex (wr.alloc (.cells #[.int .i64 x.kind,.string x.atom.pred,.slice asa x.atom.args.length csa,.bool x.left.var,.string x.left.text,.bool x.right.var,.string x.right.text] 64));have k1:Keep (fun _=>True) wr W1:=by rw [←hW1];exact kAl
   have hz1:=k1.size;have hK1:Keep (fun b=>b<N+1+1+1/\b≠N+1) W0 W1:=hK.trans (k1.mono fun _ _ _=>trivial);have hS1:=hS.keep k1 trivial;have e0:=k1.cell c0 trivial;have e1:=k1.cell c1 trivial;have e2:=k1.cell c2 trivial;have e3:=k1.cell c3 trivial;clear g hcl hsa b1 b2;by_cases hk1:x.kind=1
   ·have hk1b:(x.kind==1)=true:=by simp [hk1]
    rw [if_pos hk1]at hfs;have hst:=Xhstep.o k x hx (N+1) (qbl (body.take k)) W1.drew (hS1.keep (Keep.drew (fun _=>True) _) trivial) ((kw.trans (k1.mono fun _ _ _=>trivial)).trans kDr |>.mono fun b _ h=>by have:=XhN.o;omega);have hW1':wr.alloc (.cells #[.int .i64 1,.string x.atom.pred,.slice asa x.atom.args.length csa,.bool x.left.var,.string x.left.text,.bool x.right.var,.string x.right.text] 64)=W1:=by rw [←hW1,hk1]
    have hnl:=qlt (qbl (body.take k)) x.atom.args;have hstn:(qbe (qbl (body.take k)) x k).new=qb1 (qbl (body.take k)) x.atom.args:=by unfold qbe;rw [if_neg (by omega)]
    have hlrn:=qyn (qbl (body.take k)) x k;rw [hstn]at hlrn;rw [←hlrn]at hfs;rw [hstn]at hst;clear hstn;have hS1M:=hS1.lt;clear hk1;refine qhe ?_ hK hS kw hW1 k1 hK1 hS1 hfs hst hx hW1' hlrn;clear hK hS kw hW1 k1 hK1 hS1 hfs hst hx hW1' hlrn;intro XhK XhS Xkw XhW1 Xk1 XhK1 XhS1 Xhfs Xhst Xhx XhW1' Xhlrn;go_wp2_with fail;rw [XhW1.o]
    go_region_held3 (fun W=>W.cell? ⟨N,0,none⟩=some (.string pr)/\W.cell? ⟨N,1,none⟩=some (.slice aa args.length ca)/\W.cell? ⟨N,2,none⟩=some (.slice (some ⟨b,o,none⟩) body.length cb)/\W.cell? ⟨N+1+1,0,none⟩=some (.map (some (N+1))))
     (first |(refine⟨?_,?_,?_,?_⟩<;>assumption) |go_keep)
     (first
      |(go_at_call 149;refine Xhst.o.mono ?_;rintro e w1 ⟨vb,vn,rfl,ob,on,hq⟩;have q0:=hq.cell e0 (by simp;omega);have q1:=hq.cell e1 (by simp;omega);have q2:=hq.cell e2 (by simp;omega);have q3:=hq.cell e3 (by simp;omega);have zq:=hq.size;simp only [World.size_drew] at zq;clear e0 e1 e2 e3)
      |(go_at_call 150;have hl:=qrw w1.heap.size (N+1) (qbl (body.take k)) ⟨(k:Int),[],qb1 (qbl (body.take k)) x.atom.args⟩ vb vn w1 ((XhS1.o.keep (Keep.drew (fun _=>True) _) trivial).keep hq (by simp;omega)) (qcn on (by simp only;omega)) (Nat.le_refl _);unfold qkh at hl;simp only at hl;refine hl.mono ?_;rintro e w2 ⟨rfl,hS2,hp⟩;have p0:=hp.cell q0 (show N≠N+1 by omega);have p1:=hp.cell q1 (show N≠N+1 by omega);have p2:=hp.cell q2 (show N≠N+1 by omega);have p3:=hp.cell q3 (show N+1+1≠N+1 by omega)))
    have hK2:Keep (fun b=>b<N+1+1+1/\b≠N+1) W0 w2:=((XhK1.o.trans kDr).trans (hq.mono fun b hb h=>by simp;omega)).trans (hp.mono fun b hb h=>h.2);have hS3:SetIn w2 (N+1) (qbl (body.take (k+1))):=by rw [Xhfs.o];exact hS2
    clear hq ob on hp hS2;refine hd2 ?_ hK2 hS3;clear hK2 hS3;intro XhK2 XhS3;go_wp2_with fail;go_roundw
    case rel=>exact⟨k+1,by omega,by go_num,XhK2.o,XhS3.o⟩
    case measure=>simp [intOf];omega
   ·have hk1b:(x.kind==1)=false:=beq_eq_false_iff_ne.2 hk1;rw [if_neg hk1]at hfs;rw [←hfs]at hS1;refine hd9 ?_ hK hS kw hW1 k1 hK1 hS1 hfs hx;clear hK hS kw hW1 k1 hK1 hS1 hfs hx;intro XhK XhS Xkw XhW1 Xk1 XhK1 XhS1 Xhfs Xhx;go_wp2_with fail;rw [XhW1.o];go_roundw
    case rel=>exact⟨k+1,by omega,by go_num,XhK1.o,XhS1.o⟩
    case measure=>simp [intOf];omega
  ·obtain rfl:k=body.length:=by omega
   rw [take_length]at hS;have hkN:Keep (fun b=>b<w.heap.size) w wr:=kw.mono fun b _ h=>by have:=XhN.o;omega
   have h1:=Xhhas.o (N+1) (qbl body) wr hS hkN;have h2:=fun W (hK2:Keep (fun b=>b<wr.heap.size) wr W)=>Xhnot.o (N+1+1) (N+1) (qbl body) W (hS.keep hK2 hMl) (hkN.trans (hK2.mono fun b hb _=>hb)) (hK2.cell c3 hBl);obtain⟨bh,hbh⟩: ∃b,args.any (qcf (qbl body))=b:=⟨_,rfl⟩;obtain⟨bl,hbl⟩: ∃b,body.all (qcm (qbl body))=b:=⟨_,rfl⟩;rw [hbh]at h1;simp only [hbl]at h2;have hE2:qd6 ⟨⟨pr,args⟩,body⟩=(!bh&&bl):=by rw [XhE.o,hbh,hbl]
   clear b1 b2 hbh hbl;refine hd7 ?_ hK hS kw h1 h2 hE2 hkN;clear hK hS kw h1 h2 hE2 hkN;intro XhK XhS Xkw Xh1 Xh2 XhE2 XhkN;cases bh
   ·go_wp2_with fail;refine Xh1.o.mono ?_;rintro e W2 ⟨rfl,k2⟩;have f2:=k2.cell c2 hNl;have f3:=k2.cell c3 hBl;have hz2:=k2.size;have hl2:N<W2.heap.size:=by omega
    have h3:=Xh2.o W2 k2;refine hd1 ?_ h3;clear h3;intro Xh3;go_wp2_with fail;refine Xh3.o.mono ?_;rintro e W3 ⟨rfl,k3⟩;go_wp2_with fail;go_ret;exact⟨by rw [XhE2.o];cases bl<;>rfl,(Xkw.o.trans (k2.mono fun b hb h=>by omega)).trans (k3.mono fun b hb h=>by omega) |>.mono fun b _ h=>by have:=XhN.o;omega⟩
   ·go_wp2_with fail;refine Xh1.o.mono ?_;rintro e W2 ⟨rfl,k2⟩;go_wp2_with fail;go_ret;exact⟨by rw [XhE2.o];rfl,(Xkw.o.trans (k2.mono fun b hb h=>by omega)) |>.mono fun b _ h=>by have:=XhN.o;omega⟩
def qh0 (ls:List LitD):List ByteArray:=ls.foldl (fun K L=>if L.kind=1 then K++qi6 L.atom.args else K) []
theorem qn9 (ls:List LitD){k:Nat}{L:LitD}(h:ls[k]?=some L):qh0 (ls.take (k+1))=if L.kind=1 then qh0 (ls.take k)++qi6 L.atom.args else qh0 (ls.take k):=by
 unfold qh0;rw [take_add_one,h,foldl_append]
 rfl
theorem qlu {K:List ByteArray}{ts:List TermD}{x:ByteArray}:x∈qb1 K ts↔x∈qi6 ts/\x∉K:=by
 rw [←q00];unfold qt6;simp only [mem_filter,Bool.not_eq_true',decide_eq_false_iff_not]
theorem q08 (ls:List LitD)(x:ByteArray):x∈qh0 ls↔x∈qbl ls:=by
 have h: ∀k,k<=ls.length->(x∈qh0 (ls.take k)↔x∈qbl (ls.take k)):=by
  intro k
  induction k with
  |zero=>intro _;simp [qh0,qbl]
  |succ k ih=>
   intro hk;have ih:=ih (by omega);have hL:=getElem?_eq_getElem (show k<ls.length by omega);rw [qn9 ls hL,qn7 ls hL];split
   ·rw [mem_append,mem_append,qlu,ih];constructor
    ·rintro(h |h)
     ·exact .inl h
     ·by_cases hx:x∈qbl (ls.take k)
      ·exact .inl hx
      ·exact .inr ⟨h,hx⟩
    ·rintro(h |h)
     ·exact .inl h
     ·exact .inr h.1
   ·exact ih
 have:=h ls.length (Nat.le_refl _)
 rwa [take_length] at this
def qd3 (r:RuleD)(l:List qai)(arg:Bool):Int:=if !qax r ||!qbu l ||arg then 2 else if !qd6 r then 14 else 0
set_option maxRecDepth 100000 in
theorem q09 (n:Nat)(r:RuleD)(sh sb:Value)(l:List qai)(sv:Value)(w:World)(hr:RuleIn n w sh sb r)(hl:SizesIn n w sv l)(hn:n<=w.heap.size):Calls prog 145 #[qbf r sh sb,sv] w fun e w'=>e=.returned (.int .i64 (qd3 r l false))/\Keep (fun b=>b<w.heap.size) w w':=by
 have h1:=fun W (hK:Keep (fun b=>b<w.heap.size) w W)=>qyj n r sh sb W (hr.keep (hK.mono fun b _ h=>by omega)) (by have:=hK.size;omega);have h2:=fun W (hK:Keep (fun b=>b<w.heap.size) w W)=>qyk n l sv W (hl.keep (hK.mono fun b _ h=>by omega)) (by have:=hK.size;omega);have h3:=fun W (hK:Keep (fun b=>b<w.heap.size) w W)=>q3z n r sh sb W (hr.keep (hK.mono fun b _ h=>by omega)) (by have:=hK.size;omega);have hE:qd3 r l false=if !qax r ||!qbu l ||false then 2 else if !qd6 r then 14 else 0:=rfl
 obtain⟨b1,hb1⟩: ∃b,qax r=b:=⟨_,rfl⟩;obtain⟨b2,hb2⟩: ∃b,qbu l=b:=⟨_,rfl⟩;obtain⟨b3,hb3⟩: ∃b,qd6 r=b:=⟨_,rfl⟩;simp only [hb1]at h1;simp only [hb2]at h2;simp only [hb3]at h3;rw [hb1,hb2,hb3]at hE;obtain⟨asv,csv,rfl,-,-,-⟩:=id hl;obtain⟨⟨pr,args⟩,body⟩:=r;obtain⟨hh,hb⟩:=id hr;unfold qbf at h1 h3⊢;simp only at hh hb h1 h3 hE⊢;obtain⟨aa,ca,rfl,-,-,-⟩:=id hh;obtain⟨ab,cb,rfl,-,-,-⟩:=id hb;obtain⟨W0,hW0⟩:=ex (w.alloc (.cells #[.string pr,.slice aa args.length ca,.slice ab body.length cb] 27));have k0:Keep (fun b=>b<w.heap.size) w W0:=by rw [←hW0];exact kAl
 have hz:=k0.size;have bx:W0.heap[w.heap.size]?=some (.cells #[.string pr,.slice aa args.length ca,.slice ab body.length cb] 27 (0,0)):=by rw [←hW0];exact qh _ _
 have l0:=qe bx;have c0:=qb bx 0 _ rfl;have c1:=qb bx 1 _ rfl;have c2:=qb bx 2 _ rfl;simp only [Nat.zero_add]at c0 c1 c2;clear hb1 hb2 hb3 hh hb hr hl bx;refine hd6 ?_ h1 h2 h3 hE hW0 k0;clear h1 h2 h3 hE hW0 k0;intro Xh1 Xh2 Xh3 XhE XhW0 Xk0;cases b1
 ·go_enter Tryz.func145,Tryz.ntmps145
  go_wp2_with fail;rw [XhW0.o];refine(Xh1.o _ Xk0.o).mono ?_;rintro e W1 ⟨rfl,k1⟩;go_wp2_with fail;go_ret;exact⟨by rw [XhE.o];rfl,Xk0.o.trans (k1.mono fun b hb _=>by omega)⟩
 ·cases b2
  all_goals go_enter Tryz.func145,Tryz.ntmps145
  all_goals go_wp2_with fail
  all_goals rw [XhW0.o]
  all_goals refine(Xh1.o _ Xk0.o).mono ?_
  all_goals (rintro e W1 ⟨rfl,k1⟩;have e0:=k1.cell c0 l0;have e1:=k1.cell c1 l0;have e2:=k1.cell c2 l0;have z1:=k1.size;have kk:Keep (fun b=>b<w.heap.size) w W1:=Xk0.o.trans (k1.mono fun b hb _=>(by omega));have l1:w.heap.size<W1.heap.size:=(by omega);clear c0 c1 c2)
  all_goals (have Xkk:=Lib.hid kk;have Xk1:=Lib.hid k1;clear kk k1)
  all_goals go_wp2_with fail
  all_goals refine(Xh2.o _ Xkk.o).mono ?_
  all_goals (rintro e W2 ⟨rfl,k2⟩;have f0:=k2.cell e0 l1;have f1:=k2.cell e1 l1;have f2:=k2.cell e2 l1;have z2:=k2.size;have kk2:Keep (fun b=>b<w.heap.size) w W2:=Xkk.o.trans (k2.mono fun b hb _=>(by omega));have l2:w.heap.size<W2.heap.size:=(by omega);clear e0 e1 e2)
  all_goals (have Xkk2:=Lib.hid kk2;have Xk2:=Lib.hid k2;clear kk2 k2)
  ·go_wp2_with fail;go_ret;exact⟨by rw [XhE.o];rfl,Xkk2.o⟩
  ·cases b3
   all_goals go_wp2_with fail
   all_goals refine(Xh3.o _ Xkk2.o).mono ?_
   all_goals (rintro e W3 ⟨rfl,k3⟩)
   all_goals go_wp2_with fail
   all_goals go_ret
   all_goals exact⟨by rw [XhE.o];rfl,Xkk2.o.trans (k3.mono fun b hb _=>by omega)⟩
theorem qiv (w:World)(e:TypeId)(sz:Nat):(w.alloc (.cells #[] e)).ownsRow w.heap.size e sz (.slice (some ⟨w.heap.size,0,none⟩) 0 0) 0 []:=
 ⟨by simp,.inr ⟨w.heap.size,0,#[],rfl,Nat.le_refl _,qh w _,Nat.le_refl _,by simp [maxLen],by simp,by simp⟩⟩
theorem qqz {T e:TypeId}{sz by':Nat}(h:qce prog T e sz by')(w:World)(a:Option Addr)(l c:Nat):(binOp .eql T (.slice a l c) (.slice none 0 0)).run prog w=.ok (.bool a.isNone) w:=by
 show((Op.equal T (.slice a l c) (.slice none 0 0))>>=fun b=>pure (Value.bool b)).run prog w=_;simp [run_equal_slice_nil w T e a l c h.1]
theorem qlv:qce prog 22 60 2 24:=qcx (z:=.agg #[.bool false,.string ⟨#[]⟩]) (by kernel_rfl) (by kernel_rfl) rfl (by decide) (by decide)
theorem qk5:qce prog 25 64 7 96:=qcx (z:=.agg #[.int .i64 0,.string ⟨#[]⟩,.slice none 0 0,.bool false,.string ⟨#[]⟩,.bool false,.string ⟨#[]⟩]) (by kernel_rfl) (by kernel_rfl) rfl (by decide) (by decide)
theorem q30:qce prog 205 211 3 56:=qcx (z:=.agg #[.int .i64 0,.slice none 0 0,.slice none 0 0]) (by kernel_rfl) (by kernel_rfl) rfl (by decide) (by decide)
set_option maxRecDepth 100000 in
theorem qgx (a:Option Addr)(m c:Nat)(news:List Value)(w:World)(hl:news.length=m*2)(hs: ∀b,a=some b-> ∀j u,news[j]?=some u->w.cell? (b.add j)=some u)(hn:a=none->m=0)(h1: ∀u∈news,u.oneCell'=true)(hm:m<=1073741824):
  Calls prog 81 #[.slice a m c] w fun e w'=> ∃v',e=.returned v'/\w'.ownsRow w.heap.size 60 2 v' m news/\Keep (fun _=>True) w w':=by
 have hq:=fun w a l c=>qqz qlv w a l c;cases a with
 |none=>
  have hm0:=hn rfl;subst hm0;have hnil:news= []:=eq_nil_of_length_eq_zero (by simpa using hl);subst hnil;clear hl hs hn h1 hm
  go_enter Tryz.func81,Tryz.ntmps81
  go_wp2_with fail;go_ret;exact⟨_,rfl,World.ownsRow_nil _ _ _ _,Keep.refl _ _⟩
 |some b=>
  obtain⟨W0,hW0⟩:=ex (w.alloc (.cells #[] 60));have k0:Keep (fun _=>True) w W0:=by rw [←hW0];exact kAl
  have o0:=qiv w 60 2;rw [hW0]at o0;obtain⟨v',W1,hr,ho,hg,hk⟩:=qji (P:=prog) qlv 22 o0 (some b) m c news hl (fun b' hb j u hj=>k0.cell (hs b' hb j u hj) trivial) (fun h=>by cases h) h1 (by omega) k0.size;rw [nil_append,Nat.zero_add]at ho;have hk1:Keep (fun b=>b<w.heap.size) w W1:=(k0.mono fun _ _ _=>trivial).trans (hk.mono fun b _ h e=>by
   rcases hg b e with h1 |h1
   ·simp [Value.ownBlock]at h1;omega
   ·have:=k0.size;omega)
  have hk2:Keep (fun _=>True) w W1:=hk1.mono fun b hb _=>hb;rw [←hW0]at hr;obtain⟨a',c',rfl⟩:=qi ho;clear hl hs hn h1 hg hk hk1 k0 o0 hW0;refine hd3 ?_ hr ho hk2;clear hr ho hk2;intro Xhr Xho Xhk2
  go_enter Tryz.func81,Tryz.ntmps81
  go_wp2_with (at_builtin;refine qcq (v:=.slice (some ⟨w.heap.size,0,none⟩) 0 0) (u:=.slice (some b) m c) (v':=.slice a' m c') (w':=W1) rfl (.tmp 5) (.tmp 6) 22 rfl rfl rfl Xhr.o ?_);go_ret;exact⟨_,rfl,Xho.o,Xhk2.o⟩
set_option maxRecDepth 100000 in
theorem qmb (a:Option Addr)(m c:Nat)(news:List Value)(w:World)(hl:news.length=m*7)(hs: ∀b,a=some b-> ∀j u,news[j]?=some u->w.cell? (b.add j)=some u)(hn:a=none->m=0)(h1: ∀u∈news,u.oneCell'=true)(hm:m<=1073741824):
  Calls prog 82 #[.slice a m c] w fun e w'=> ∃v',e=.returned v'/\w'.ownsRow w.heap.size 64 7 v' m news/\Keep (fun _=>True) w w':=by
 have hq:=fun w a l c=>qqz qk5 w a l c;cases a with
 |none=>
  have hm0:=hn rfl;subst hm0;have hnil:news= []:=eq_nil_of_length_eq_zero (by simpa using hl);subst hnil;clear hl hs hn h1 hm
  go_enter Tryz.func82,Tryz.ntmps82
  go_wp2_with fail;go_ret;exact⟨_,rfl,World.ownsRow_nil _ _ _ _,Keep.refl _ _⟩
 |some b=>
  obtain⟨W0,hW0⟩:=ex (w.alloc (.cells #[] 64));have k0:Keep (fun _=>True) w W0:=by rw [←hW0];exact kAl
  have o0:=qiv w 64 7;rw [hW0]at o0;obtain⟨v',W1,hr,ho,hg,hk⟩:=qji (P:=prog) qk5 25 o0 (some b) m c news hl (fun b' hb j u hj=>k0.cell (hs b' hb j u hj) trivial) (fun h=>by cases h) h1 (by omega) k0.size;rw [nil_append,Nat.zero_add]at ho;have hk1:Keep (fun b=>b<w.heap.size) w W1:=(k0.mono fun _ _ _=>trivial).trans (hk.mono fun b _ h e=>by
   rcases hg b e with h1 |h1
   ·simp [Value.ownBlock]at h1;omega
   ·have:=k0.size;omega)
  have hk2:Keep (fun _=>True) w W1:=hk1.mono fun b hb _=>hb;rw [←hW0]at hr;obtain⟨a',c',rfl⟩:=qi ho;clear hl hs hn h1 hg hk hk1 k0 o0 hW0;refine hd3 ?_ hr ho hk2;clear hr ho hk2;intro Xhr Xho Xhk2
  go_enter Tryz.func82,Tryz.ntmps82
  go_wp2_with (at_builtin;refine qcq (v:=.slice (some ⟨w.heap.size,0,none⟩) 0 0) (u:=.slice (some b) m c) (v':=.slice a' m c') (w':=W1) rfl (.tmp 5) (.tmp 6) 25 rfl rfl rfl Xhr.o ?_);go_ret;exact⟨_,rfl,Xho.o,Xhk2.o⟩
end Go.Proofs.P16
namespace Go.Proofs.P16
open Go.RowKit Go.Ink
def qac (ts:List TermD):List Value:=ts.flatMap fun t=> [.bool t.var,.string t.text]
theorem qf4 (ts:List TermD):(qac ts).length=ts.length*2:=qa0 _ 2 (fun _=>rfl) ts
theorem qhc (ts:List TermD): ∀u∈qac ts,u.oneCell'=true:=qjk _ (fun x u hu=>by
 simp only [mem_cons,not_mem_nil,or_false]at hu;rcases hu with rfl |rfl<;>rfl) ts
theorem qhr {w:World}{base n:Nat}{e:TypeId}{v:Value}{ts:List TermD}(h:w.ownsRow base e 2 v n (qac ts))(hn:n=ts.length)(hb:ts.length<=1073741824):qaj w.heap.size w v ts:=
 qdx h ts hn hb TermE fun b k t ht hc=>by
  have hk: ∀j,j<2->(qac ts)[k*2+j]?=([Value.bool t.var,.string t.text]:List Value)[j]?:=fun j hj=>qbc _ 2 (fun _=>rfl) _ k j t ht hj;exact⟨by have:=hc 0 (by omega);rw [hk 0 (by omega)] at this;exact this,by have:=hc 1 (by omega);rw [hk 1 (by omega)] at this;exact this⟩
theorem qgr {n:Nat}{w:World}{a:Option Addr}{c:Nat}{ts:List TermD}(h:qaj n w (.slice a ts.length c) ts):(∀b,a=some b-> ∀j u,(qac ts)[j]?=some u->w.cell? (b.add j)=some u)/\(a=none->ts.length=0):=
 qf5 (fun t:TermD=> [Value.bool t.var,Value.string t.text]) (fun _=>rfl) (by omega) (fun b o x hx j u hu=>by
  match j,hu with
  |0,hu=>simp at hu;subst hu;exact hx.1
  |1,hu=>simp at hu;subst hu;exact hx.2) h rfl
theorem qjf {w:World}{base:Nat}{e:TypeId}{sz n cap g:Nat}{xs:List Value}(h:w.ownsRow base e sz (.slice (some ⟨g,0,none⟩) n cap) n xs)(j:Nat)(u:Value)(hj:j<xs.length):(w.setCell ⟨g,j,none⟩ u).ownsRow base e sz (.slice (some ⟨g,0,none⟩) n cap) n (xs.set j u):=by
 refine⟨by rw [length_set];exact h.1,?_⟩;rcases h.2 with ⟨h1,_⟩ |⟨g',cap',cur,h1,hb,hg,hnc,hcm,hcs,ht⟩
 ·cases h1
 ·cases h1;refine .inr ⟨g,cap,cur.setIfInBounds j u,rfl,hb,q8 j u hg,hnc,hcm,by rw [Array.size_setIfInBounds];exact hcs,?_⟩;rw [←ht,Array.toList_setIfInBounds,take_set]
abbrev qc2 (p:LitD×Value):List Value:=qaf p.1 p.2
theorem qw7 (qs rest:List (LitD×Value))(p:LitD×Value)(v:Value):((qs++p::rest).flatMap qc2).set (qs.length*7+2) v=(qs++(p.1,v)::rest).flatMap qc2:=by
 rw [flatMap_append,flatMap_append,set_append_right _ _ (by rw [qa0 qc2 7 (fun _=>rfl)];omega),qa0 qc2 7 (fun _=>rfl)]
 congr 1
 rw [show qs.length*7+2-qs.length*7=2 by omega]
 rfl
def BodyOwn (base:Nat)(tl tt:TypeId)(w:World)(v:Value)(ls:List LitD):Prop:=
 ∃ps:List (LitD×Value),ps.map (·.1)=ls/\w.ownsRow base tl 7 v ls.length (ps.flatMap qc2)/\ ∀p,p∈ps->w.ownsRow base tt 2 p.2 p.1.atom.args.length (qac p.1.atom.args)
def RuleOwn (base:Nat)(tl tt:TypeId)(w:World)(vh vb:Value)(r:RuleD):Prop:=
 w.ownsRow base tt 2 vh r.head.args.length (qac r.head.args)/\BodyOwn base tl tt w vb r.body
def qua (r:RuleD):Prop:=r.head.args.length<=1073741824/\r.body.length<=1073741824/\ ∀L,L∈r.body->L.atom.args.length<=1073741824
theorem qov {n:Nat}{w:World}{sh sb:Value}{r:RuleD}(h:RuleIn n w sh sb r):qua r:=by
 obtain⟨⟨_,_,_,h1,_⟩,⟨a,c,hv,h2,h3,h4⟩⟩:=h;refine⟨h1,h2,fun L hL=>?_⟩;obtain⟨k,hk⟩:=mem_iff_getElem?.1 hL;obtain⟨_,_,_,_,_,_,⟨_,_,_,h,_⟩⟩:=h4 k L hk;exact h
theorem RuleOwn.rule {base:Nat}{tl tt:TypeId}{w:World}{vh vb:Value}{r:RuleD}(h:RuleOwn base tl tt w vh vb r)(hs:qua r):RuleIn w.heap.size w vh vb r:=by
 obtain⟨h1,ps,hps,h2,h3⟩:=h;refine⟨qhr h1 rfl hs.1,?_⟩;have hmem: ∀p,p∈ps->p.1∈r.body:=fun p hp=>by rw [←hps];exact mem_map.2 ⟨p,hp,rfl⟩
 have:=qs2 (n0:=w.heap.size) h2 (by have:=congrArg List.length hps;rw [length_map] at this;rw [this];exact hs.2.1) (Nat.le_refl _) (fun p hp=>qhr (h3 p hp) rfl (hs.2.2 _ (hmem p hp)))
 rwa [hps] at this
theorem BodyOwn.keep {base:Nat}{tl tt:TypeId}{w w':World}{v:Value}{ls:List LitD}{C:Nat->Prop}(h:BodyOwn base tl tt w v ls)(hK:Keep C w w')(hC: ∀b,base<=b->b<w.heap.size->C b):BodyOwn base tl tt w' v ls:=by
 obtain⟨ps,hps,h2,h3⟩:=h;exact⟨ps,hps,qg h2 hK (fun b hb=>by have:=World.ownsRow.lt h2 b hb;exact hC b this.1 this.2),fun p hp=>qg (h3 p hp) hK (fun b hb=>by have:=World.ownsRow.lt (h3 p hp) b hb;exact hC b this.1 this.2)⟩
theorem RuleOwn.keep {base:Nat}{tl tt:TypeId}{w w':World}{vh vb:Value}{r:RuleD}{C:Nat->Prop}(h:RuleOwn base tl tt w vh vb r)(hK:Keep C w w')(hC: ∀b,base<=b->b<w.heap.size->C b):RuleOwn base tl tt w' vh vb r:=
 ⟨qg h.1 hK (fun b hb=>by have:=World.ownsRow.lt h.1 b hb;exact hC b this.1 this.2),h.2.keep hK hC⟩
theorem BodyOwn.mono {base base':Nat}{tl tt:TypeId}{w:World}{v:Value}{ls:List LitD}(h:BodyOwn base tl tt w v ls)(hb:base'<=base):BodyOwn base' tl tt w v ls:=by
 obtain⟨ps,hps,h2,h3⟩:=h;exact⟨ps,hps,h2.mono hb,fun p hp=>(h3 p hp).mono hb⟩
theorem RuleOwn.mono {base base':Nat}{tl tt:TypeId}{w:World}{vh vb:Value}{r:RuleD}(h:RuleOwn base tl tt w vh vb r)(hb:base'<=base):RuleOwn base' tl tt w vh vb r:=⟨h.1.mono hb,h.2.mono hb⟩
theorem qpu {n:Nat}{w:World}{a:Option Addr}{c:Nat}{ls:List LitD}(h:qf3 n w (.slice a ls.length c) ls): ∃ps:List (LitD×Value),ps.map (·.1)=ls/\(∀p,p∈ps->qaj n w p.2 p.1.atom.args)/\(∀b,a=some b-> ∀j u,(ps.flatMap qc2)[j]?=some u->w.cell? (b.add j)=some u)/\(a=none->ls.length=0):=by
 obtain⟨a',c',hv,hl,hc,he⟩:=h;cases hv;have hex: ∀k,k<=ls.length-> ∃ps:List (LitD×Value),ps.map (·.1)=ls.take k/\ ∀j p,ps[j]?=some p->qaj n w p.2 p.1.atom.args/\ ∃b off,a=some ⟨b,off,none⟩/\CellsE w b (off+j*7) (qc2 p):=by
  intro k
  induction k with
  |zero=>intro _;exact⟨[],rfl,fun j p h=>by simp at h⟩
  |succ k ih=>
   intro hk;obtain⟨ps,hps,hall⟩:=ih (by omega);obtain⟨b,off,ha,hb,sa,hcl,hsa⟩:=he k _ (getElem?_eq_getElem (show k<ls.length by omega));have hlen:ps.length=k:=by have:=congrArg List.length hps;rw [length_map,length_take] at this;omega
   refine⟨ps++ [(ls[k]'(by omega),sa)],by rw [map_append,hps,take_add_one,getElem?_eq_getElem (show k<ls.length by omega)];rfl,fun j p hj=>?_⟩;rcases Nat.lt_or_ge j ps.length with hlt |hge
   ·rw [getElem?_append_left hlt]at hj;exact hall j p hj
   ·rw [getElem?_append_right hge]at hj;have hj0:j-ps.length=0:=by
     have:=(List.getElem?_eq_some_iff.1 hj).1;simp at this;omega
    rw [hj0]at hj;simp at hj;subst hj;have:j=k:=by omega
    subst this;exact⟨hsa,b,off,ha,hcl⟩
 obtain⟨ps,hps,hall⟩:=hex ls.length (Nat.le_refl _);rw [take_length]at hps;have hlen:ps.length=ls.length:=by have:=congrArg List.length hps;rwa [length_map] at this
 refine⟨ps,hps,fun p hp=>?_,fun b hb j u hj=>?_,fun ha=>?_⟩
 ·obtain⟨j,hj⟩:=mem_iff_getElem?.1 hp;exact(hall j p hj).1
 ·have hlt:=(List.getElem?_eq_some_iff.1 hj).1;rw [qa0 qc2 7 (fun _=>rfl)]at hlt;have hq:j/7<ps.length:=by omega
  obtain⟨b',off,ha,hcl⟩:=(hall (j/7) _ (getElem?_eq_getElem hq)).2;rw [ha]at hb;cases hb;have hk:=qbc qc2 7 (fun _=>rfl) ps (j/7) (j%7) _ (getElem?_eq_getElem hq) (by omega);rw [show j/7*7+j%7=j by omega,hj]at hk;have:=hcl (j%7) u hk.symm;rw [show((⟨b',off,none⟩:Addr).add j)=⟨b',off+j,none⟩ from by unfold Addr.add;split<;>simp_all]
  rwa [Nat.add_assoc,show j/7*7+j%7=j by omega] at this
 ·by_cases h0:ls.length=0
  ·exact h0
  ·obtain⟨b,off,hb,_⟩:=he 0 ls[0] (getElem?_eq_getElem (by omega));rw [ha]at hb;cases hb
theorem qub {n:Nat}{w:World}{ps:List (LitD×Value)}(h: ∀p,p∈ps->qaj n w p.2 p.1.atom.args): ∀u∈ps.flatMap qc2,u.oneCell'=true:=by
 intro u hu;obtain⟨p,hp,hx⟩:=mem_flatMap.1 hu;obtain⟨a,c,hv,_⟩:=h p hp;unfold qc2 qaf at hx;rw [hv]at hx;simp only [mem_cons,not_mem_nil,or_false]at hx;rcases hx with rfl |rfl |rfl |rfl |rfl |rfl |rfl<;>rfl
end Go.Proofs.P16
