/- Parts of the proof. -/
import Derived.Test.YtnponcjnahicnaaGreatProg
import Derived.Test.YtnponcjnahicnaaGreatDataToOwnB
import Derived.Test.YtnponcjnahicnaaGreatHdToKp
set_option linter.unusedSimpArgs false
set_option linter.unusedVariables false
open Go.Proofs.Tryz(prog)
open List(append_toArray cons_append getD_cons_succ getD_cons_zero getElem?_cons_succ getElem?_cons_zero getElem?_eq_getElem getElem?_toArray length_append length_cons length_nil map_append map_cons map_nil mem_cons nil_append nodup_cons nodup_nil push_toArray size_toArray take_add_one take_of_length_le)
namespace Go.Proofs.S12
open Go.RowKit Go.Ink
attribute [local go_sem] Oper.semAt_some
def qiy (n0 Bx:Nat)(w0:World)(cs:Array Value)(W:World):Prop:=W.heap[Bx]?=some (.cells cs 64 (0,0))/\Keep (fun k=>k<n0) w0 W
set_option maxRecDepth 100000 in
set_option maxHeartbeats 1000000 in
theorem qwo (n0 Bx:Nat)(w0:World)(L:LitD)(sa:Value)(hsa:qaj n0 w0 sa L.atom.args)(hn0:n0<=w0.heap.size):
  qxv prog 142 #[.pointer (some ⟨Bx,0,none⟩)] (fun k=> #[(L.terms.getD k default).val]) L.terms.length (qiy n0 Bx w0 (qaf L sa).toArray) (fun _=>False):=by
 intro l J Jx O0 W hl hO0 hV hJ hJx hY h0;refine qbp Tryz.func142 rfl ?_;simp only [Tryz.ntmps142,size_toArray,length_cons,length_nil,Nat.reduceAdd,Nat.reduceSub,Array.replicate_succ,Array.replicate_zero,push_toArray,append_toArray,nil_append,cons_append];obtain⟨a,cap,rfl,hlen,hcap,hel⟩:=id hsa;obtain⟨hB,hK⟩:=id hV;have hc:=qb hB;have c0:=hc 0 _ rfl;have c1:=hc 1 _ rfl;have c2:=hc 2 _ rfl;simp only [Nat.zero_add,Nat.add_zero]at c0 c1 c2;have HJ:=Lib.hid hJ;have HJx:=Lib.hid hJx;have HY:=Lib.hid hY;have HV:=Lib.hid hV;have HB:=Lib.hid hB;have HK:=Lib.hid hK;have HO:=Lib.hid hO0;have HE:=Lib.hid hel;have HS:=Lib.hid hsa;clear hJ hJx hY hV hB hK hO0 hc hel hsa;by_cases h12:L.kind=1∨L.kind=2
 ·have ht:L.terms=L.atom.args:=by simp [LitD.terms,h12]
  have hk12:((L.kind==1)=true)∨((L.kind==1)=false/\(L.kind==2)=true):=by rcases h12 with h |h<;>simp [h]
  have HT:=Lib.hid ht;clear h12 ht;rcases hk12 with hk1 |⟨hk1,hk2⟩
  all_goals
   gi_wp2;gi_loopw [14] (fun i wr=> ∃(k:Nat) (O:Nat->Prop),k<=L.atom.args.length/\i=.int .i64 k/\J k O wr/\qiy n0 Bx w0 (qaf L (.slice a L.atom.args.length cap)).toArray wr/\W.heap.size<=wr.heap.size) (fun i _=>L.atom.args.length-(intOf i).toNat)
   case atStart=>exact⟨0,O0,by omega,rfl,h0,HV.out,by omega⟩
   case round=>
    obtain⟨k,O,hk,rfl,hJk,hVk,hsz⟩:=hrel;have HJk:=Lib.hid hJk;have HVk:=Lib.hid hVk;clear hJk hVk h0 c0 c1 c2;by_cases hlt:k<L.atom.args.length
    ·obtain⟨t,ht⟩: ∃t,L.atom.args[k]?=some t:=⟨_,getElem?_eq_getElem hlt⟩;have ht':L.terms.getD k default=t:=by rw [HT.out];simp [List.getD,ht]
     obtain⟨b,off,rfl,hb,e1,e2⟩:=HE.out k t ht;have d1:=HVk.out.2.cell e1 hb;have d2:=HVk.out.2.cell e2 hb;obtain⟨fn,tmps,assign,body,hy,hR⟩:=HY.out k O (wr.alloc (.cells #[.bool t.var,.string t.text] 60)) (by rw [HT.out];exact hlt)
      (HJ.out _ _ _ _ HJk.out kAl) ⟨(Keep.alloc (fun _=>True) _ _).heap HVk.out.1 trivial,HVk.out.2.trans kAl⟩ (by simp;omega)
     simp only [ht',TermD.val]at hy;have HR:=Lib.hid hR;clear e1 e2 ht ht' hR;gi_wp2;refine⟨rfl,HR.out.mono ?_⟩;rintro e Y ⟨O',hO1,hO2,hKY,hVY,(⟨rfl,hJY⟩ |⟨rfl,hJY⟩)⟩
     all_goals
      have HK1:=Lib.hid hKY;have HV1:=Lib.hid hVY;have HJ1:=Lib.hid hJY;have hs1:=hKY.size;simp at hs1;clear hKY hVY hJY hO1 hO2 HR hy;gi_wp2
     ·go_roundw
      case rel=>exact⟨k+1,O',by omega,by go_num,HJ1.out,HV1.out,by omega⟩
      case measure=>simp [intOf];omega
     ·refine bodyPost_ret (results_none rfl _ _ _) rfl ?_;exact⟨⟨_,rfl⟩,by omega,HV1.out,O',.inr ⟨k,by rw [HT.out];exact hlt,HJ1.out⟩⟩
    ·gi_wp2
     go_end0
     obtain rfl:k=L.atom.args.length:=by omega
     exact⟨⟨_,rfl⟩,hsz,HVk.out,O,.inl (by rw [HT.out];exact HJk.out)⟩
 ·have hk1:(L.kind==1)=false:=by simp;omega
  have hk2:(L.kind==2)=false:=by simp;omega
  by_cases h3:L.kind=3
  ·have hk3:(L.kind==3)=true:=by simp [h3]
   have ht:L.terms= [L.left,L.right]:=by simp [LitD.terms,h3]
   have hB:=HB.out;have hc:=qb hB;have c3:=hc 3 _ rfl;have c4:=hc 4 _ rfl;simp only [Nat.zero_add]at c3 c4;obtain⟨fn,tmps,assign,body,hy,hR⟩:=HY.out 0 O0 W (by rw [ht];simp) h0 HV.out (Nat.le_refl _);simp only [ht,getD_cons_zero,TermD.val]at hy;have HR:=Lib.hid hR;have HT:=Lib.hid ht;clear h12 h3 ht hR hB hc;gi_wp2;refine⟨rfl,HR.out.mono ?_⟩;rintro e Y ⟨O',hO1,hO2,hKY,hVY,(⟨rfl,hJY⟩ |⟨rfl,hJY⟩)⟩
   ·have hc:=qb hVY.1;have c5:=hc 5 _ rfl;have c6:=hc 6 _ rfl;simp only [Nat.zero_add]at c5 c6;obtain⟨fn,tmps,assign,body,hy,hR⟩:=HY.out 1 O' Y (by rw [HT.out];simp) hJY hVY hKY.size;simp only [HT.out,getD_cons_succ,getD_cons_zero,TermD.val]at hy;have HR:=Lib.hid hR;have HK1:=Lib.hid hKY;have hs1:=hKY.size;clear hKY hVY hJY hO1 hO2 hR hc;gi_wp2;refine⟨rfl,HR.out.mono ?_⟩;rintro e Y2 ⟨O2,hO1,hO2,hKY,hVY,hJY⟩;have HV1:=Lib.hid hVY;have hs2:=hKY.size;have HJ1:Hid (∃O',J L.terms.length O' Y2∨ ∃k,k<L.terms.length/\Jx k O' Y2):=Lib.hid (by
     rw [HT.out];rcases hJY with ⟨_,h⟩ |⟨_,h⟩
     ·exact⟨O2,.inl h⟩
     ·exact⟨O2,.inr ⟨1,by simp,h⟩⟩)
    rcases hJY with ⟨rfl,hJY⟩ |⟨rfl,hJY⟩
    all_goals
     clear hO1 hO2 hKY hVY hJY;gi_wp2
     go_end0
     exact⟨⟨_,rfl⟩,by omega,HV1.out,HJ1.out⟩
   ·have HV1:=Lib.hid hVY;have HJ1:=Lib.hid hJY;have hs1:=hKY.size;clear hKY hVY hJY hO1 hO2;gi_wp2
    go_end0
    exact⟨⟨_,rfl⟩,by omega,HV1.out,O',.inr ⟨0,by rw [HT.out];simp,HJ1.out⟩⟩
  ·have hk3:(L.kind==3)=false:=by simp [h3]
   have ht:L.terms= []:=by simp [LitD.terms,h12,h3]
   have HT:=Lib.hid ht;clear h12 h3 ht;gi_wp2
   go_end0
   exact⟨⟨_,rfl⟩,Nat.le_refl _,HV.out,O0,.inl (by rw [HT.out];exact h0)⟩
theorem q2r (L:LitD)(sa:Value)(w:World):Calls prog 115 #[.agg (qaf L sa).toArray] w fun e w'=>
  e=.returned (.func (.func 142) #[] #[.pointer (some ⟨w.heap.size,0,none⟩)])/\w'=w.alloc (.cells (qaf L sa).toArray 64):=by
 unfold qaf
 go_enter Tryz.func115,Tryz.ntmps115
 go_wp2;go_ret;exact⟨rfl,rfl⟩
def qcj (r:RuleD)(sh sb:Value):List Value:= [.string r.head.pred,sh,sb]
def qgb (n0 Bx:Nat)(w0:World)(cs:Array Value)(W:World):Prop:=W.heap[Bx]?=some (.cells cs 27 (0,0))/\Keep (fun k=>k<n0) w0 W
theorem qck {n0 Bx:Nat}{w0:World}{cs:Array Value}{W W':World}{C:Nat->Prop}(h:qgb n0 Bx w0 cs W)(hK:Keep C W W')(hC: ∀k,k<n0->C k)(hB:C Bx):qgb n0 Bx w0 cs W':=
 ⟨hK.heap h.1 hB,h.2.trans (hK.mono fun k _ hk=>hC k hk)⟩
theorem qod {n0 Bx:Nat}{w0:World}{cs:Array Value}{W W':World}{C:Nat->Prop}(h:qiy n0 Bx w0 cs W)(hK:Keep C W W')(hC: ∀k,k<n0->C k)(hB:C Bx):qiy n0 Bx w0 cs W':=
 ⟨hK.heap h.1 hB,h.2.trans (hK.mono fun k _ hk=>hC k hk)⟩
structure StandsSt (n0 Bx:Nat)(w0:World)(cs:Array Value)(J:Nat->(Nat->Prop)->World->Prop)(S By Bh Bi:Nat)(yv:Value)(hc:Array Value)(iv:Int)(j:Nat)(Oo:Nat->Prop)(W:World):Prop where
 j:J j Oo W
 v:qgb n0 Bx w0 cs W
 s:S<=W.heap.size
 o: ∀b,Oo b->b<W.heap.size
 y:W.heap[By]?=some (.cells #[yv] 193 (0,0))
 h:W.heap[Bh]?=some (.cells hc 64 (0,0))
 i:W.heap[Bi]?=some (.cells #[.int .i64 iv] 3 (0,0))
 ny: ¬Oo By
 nh: ¬Oo Bh
 ni: ¬Oo Bi
 sy:S<=By
 sh:S<=Bh
 si:S<=Bi
theorem StandsSt.keep {n0 Bx:Nat}{w0:World}{cs:Array Value}{J:Nat->(Nat->Prop)->World->Prop}{S By Bh Bi:Nat}{yv:Value}{hc:Array Value}{iv:Int}{j:Nat}{Oo:Nat->Prop}{W W':World}{C:Nat->Prop}
  (h:StandsSt n0 Bx w0 cs J S By Bh Bi yv hc iv j Oo W) (hJ: ∀k O X Y,J k O X->Keep (fun b=>(b<S/\ ¬False)∨O b) X Y->J k O Y) (hn:n0<=S) (hB:Bx<S)
  (hK:Keep C W W') (c1: ∀b,b<S->C b) (c2: ∀b,Oo b->C b) (cy:C By) (ch:C Bh) (ci:C Bi):StandsSt n0 Bx w0 cs J S By Bh Bi yv hc iv j Oo W':=
 {h with j:=hJ _ _ _ _ h.j (hK.mono fun b _ hb=>hb.elim (fun h=>c1 b h.1) (c2 b)),v:=qck h.v hK (fun k hk=>c1 k (by omega)) (c1 _ hB),s:=Nat.le_trans h.s hK.size,o:=fun b hb=>Nat.lt_of_lt_of_le (h.o b hb) hK.size,y:=hK.heap h.y cy,h:=hK.heap h.h ch,i:=hK.heap h.i ci}
set_option maxRecDepth 100000 in
set_option maxHeartbeats 2000000 in
theorem qnj (n0 Bx:Nat)(w0:World)(r:RuleD)(sh sb:Value)(hsh:qaj n0 w0 sh r.head.args)(hsb:qf3 n0 w0 sb r.body)(hn0:n0<=w0.heap.size)(hBx:Bx<w0.heap.size+1):
  qxv prog 114 #[.pointer (some ⟨Bx,0,none⟩)] (fun k=> #[.int .i64 (r.stands.getD k default).1,.string (r.stands.getD k default).2]) r.stands.length (qgb n0 Bx w0 (qcj r sh sb).toArray) (fun _=>False):=by
 intro l J Jx O0 W hl hO0 hV hJ hJx hY h0;refine qfu Tryz.func114 rfl ?_;simp only [Tryz.ntmps114,qdz,Nat.reduceAdd,Nat.reduceSub];obtain⟨ab,capb,rfl,hlen,hcap,hel⟩:=id hsb;obtain⟨ah,caph,rfl,hlenh,hcaph,helh⟩:=id hsh;have hBxS:Bx<W.heap.size:=qe hV.1;have hn0S:n0<=W.heap.size:=Nat.le_trans hn0 hV.2.size;have c0:=qb hV.1 0 _ rfl;have c1:=qb hV.1 1 _ rfl;have c2:=qb hV.1 2 _ rfl;simp only [Nat.zero_add,Nat.add_zero]at c0 c1 c2;obtain⟨rc,hrc⟩: ∃rc,rc=(qcj r (.slice ah r.head.args.length caph) (.slice ab r.body.length capb)).toArray:=⟨_,rfl⟩;rw [←hrc]at hV hY⊢;refine qiz ?_ hO0 hV hJ hJx hY hel helh hsb hsh h0 hrc;clear hO0 hV hJ hJx hY hel helh hsb hsh h0 hrc;intro XhO0 XhV XhJ XhJx XhY Xhel Xhelh Xhsb Xhsh Xh0 Xhrc;gi_wp2;refine wpIn_loop (fun a' wr=> ∃(u0 u1 u2 u3 u4 u5 u6 u7 u8 u9 u10 u11 u12 u13 u14 u15 u16 u17 u18 u19 u20 u21 u22 u23 u24 u25 u26 u27 u28 u29 u30 u31 u32 u33 u34 u35 u36 u37 u38:Value) (ds:List Deferred),(∃(i:Nat) (Oo:Nat->Prop) (Bi:Nat) (Ds:List Nat),i<=r.lits.length/\u1=.pointer (some ⟨Bx,0,none⟩)/\u2=.pointer (some ⟨W.heap.size,0,none⟩)/\u3=.pointer (some ⟨W.heap.size+1,0,none⟩)/\u4=.pointer (some ⟨Bi,0,none⟩)/\
   StandsSt n0 Bx w0 rc J W.heap.size W.heap.size (W.heap.size+1) Bi (.func (.yield l) #[] #[]) (qaf r.headLit (.slice ah r.head.args.length caph)).toArray ((i:Int)-1) (r.off i) Oo wr/\ds=q42 Ds/\Ds.Nodup/\(∀D,D∈Ds->W.heap.size<=D)/\MarksAt Ds Oo wr)/\
   a'={tmps:= #[u0,u1,u2,u3,u4,u5,u6,u7,u8,u9,u10,u11,u12,u13,u14,u15,u16,u17,u18,u19,u20,u21,u22,u23,u24,u25,u26,u27,u28,u29,u30,u31,u32,u33,u34,u35,u36,u37,u38],defers:=ds}) (fun a' wr=>(r.body.length+1-qs1 wr (a'.tmps.getD 4 undef)).toNat) ?atStart ?round
 case atStart=>
  refine⟨_,_,_,_,_,_,_,_,_,_,_,_,_,_,_,_,_,_,_,_,_,_,_,_,_,_,_,_,_,_,_,_,_,_,_,_,_,_,_,[],⟨0,O0,W.heap.size+1+1,[],by omega,rfl,rfl,rfl,rfl,?_,rfl,nodup_nil,by simp,by simp [MarksAt]⟩,rfl⟩;have k1:Keep (fun _=>True) W (((W.alloc (Obj.cells #[Value.func (Fn.yield l) #[] #[]] 193)).alloc (.cells (qaf r.headLit (.slice ah r.head.args.length caph)).toArray 64)).alloc (.cells #[.int .i64 (((0:Nat):Int)-1)] 3)):=
   (kAl.trans kAl).trans kAl
  have n1:=qh W (Obj.cells #[Value.func (Fn.yield l) #[] #[]] 193);have n2:=qh (W.alloc (Obj.cells #[Value.func (Fn.yield l) #[] #[]] 193)) (.cells (qaf r.headLit (.slice ah r.head.args.length caph)).toArray 64);have n3:=qh ((W.alloc (Obj.cells #[Value.func (Fn.yield l) #[] #[]] 193)).alloc (.cells (qaf r.headLit (.slice ah r.head.args.length caph)).toArray 64)) (.cells #[.int .i64 (((0:Nat):Int)-1)] 3);simp only [World.size_alloc]at n2 n3;have ho:=XhO0.o;exact {j:=XhJ.o _ _ _ _ Xh0.o (k1.mono fun _ _ _=>trivial),v:=qck XhV.o k1 (fun _ _=>trivial) trivial,s:=k1.size,o:=fun b hb=>Nat.lt_of_lt_of_le (ho b hb) k1.size,y:=qfm (qfm n1 _) _,h:=qfm n2 _,i:=n3,ny:=fun h=>by have:=ho _ h;omega,nh:=fun h=>by have:=ho _ h;omega,ni:=fun h=>by have:=ho _ h;omega,sy:=by omega,sh:=by omega,si:=by omega}
 case round=>
  rintro a' wr ⟨u0,u1,u2,u3,u4,u5,u6,u7,u8,u9,u10,u11,u12,u13,u14,u15,u16,u17,u18,u19,u20,u21,u22,u23,u24,u25,u26,u27,u28,u29,u30,u31,u32,u33,u34,u35,u36,u37,u38,ds,⟨i,Oo,Bi,Ds,hi,rfl,rfl,rfl,rfl,hst,rfl,hDn,hDs,hDm⟩,rfl⟩;have hDlt: ∀D,D∈Ds->D<wr.heap.size:=fun D hD=>qe (hDm D hD).2;refine hd4 ?_ hDn hDs hDm hDlt;clear hDn hDs hDm hDlt;intro XhDn XhDs XhDm XhDlt;have b1:=qbn hst.i;have b1f:=qf hst.i 0;have b2:=qbn hst.y;have b3:=qb hst.h;have e1:wr.cell? ⟨Bx,2,none⟩=some (.slice ab r.body.length capb):=by
   have:=hst.v.1;rw [Xhrc.o]at this;exact qb this 2 _ rfl
  have hbs:=hst.s;have hbi:=qe hst.i;clear c0 c1 c2;by_cases hlt:i<r.lits.length
  ·have hcase: ∃L sa,r.lits[i]?=some L/\qaj n0 w0 sa L.atom.args/\((i=0/\L=r.headLit/\sa=.slice ah r.head.args.length caph)∨(∃m,i=m+1/\ ∃b off,ab=some ⟨b,off,none⟩/\b<n0/\CellsE w0 b (off+m*7) (qaf L sa))):=by
    cases i with
    |zero=>exact⟨r.headLit,_,rfl,Xhsh.o,.inl ⟨rfl,rfl,rfl⟩⟩
    |succ m=>
     have hm:m<r.body.length:=by simp [RuleD.lits] at hlt;omega
     obtain⟨b,off,ha,hb,sa,hcl,hts⟩:=Xhel.o m _ (getElem?_eq_getElem hm);exact⟨r.body[m],sa,by simp [RuleD.lits,hm],hts,.inr ⟨m,rfl,b,off,ha,hb,hcl⟩⟩
   obtain⟨L,sa,hLi,hsa,hcase⟩:=hcase;have hlt2:(i:Int)-1<r.body.length:=by simp [RuleD.lits] at hlt;omega
   have hoff:=q23 hLi;have hlast:L.atom.args.length<18446744073709551616:=by obtain⟨_,cap,_,h1,h2,_⟩:=hsa;omega
   obtain⟨aa,caps,rfl,hlens,hcaps,hels⟩:=id hsa;refine hd5 ?_ hst hLi hsa hoff hels;clear hst hLi hsa hoff hels;intro Xhst XhLi Xhsa Xhoff Xhels;clear hlt;rcases hcase with ⟨hi0,hL,hs⟩ |⟨m,him,b,off,rfl,hb,hcl⟩
   case' inl=>
    have d0:wr.cell? ⟨W.heap.size+1,0,none⟩=some (.int .i64 L.kind):=by rw [hL];exact b3 0 _ rfl
    have d1:wr.cell? ⟨W.heap.size+1,1,none⟩=some (.string L.atom.pred):=by rw [hL];exact b3 1 _ rfl
    have d2:wr.cell? ⟨W.heap.size+1,2,none⟩=some (.slice aa L.atom.args.length caps):=by rw [hs];exact b3 2 _ rfl
    have d3:wr.cell? ⟨W.heap.size+1,3,none⟩=some (.bool L.left.var):=by rw [hL];exact b3 3 _ rfl
    have d4:wr.cell? ⟨W.heap.size+1,4,none⟩=some (.string L.left.text):=by rw [hL];exact b3 4 _ rfl
    have d5:wr.cell? ⟨W.heap.size+1,5,none⟩=some (.bool L.right.var):=by rw [hL];exact b3 5 _ rfl
    have d6:wr.cell? ⟨W.heap.size+1,6,none⟩=some (.string L.right.text):=by rw [hL];exact b3 6 _ rfl
    have b1':wr.cell? ⟨Bi,0,none⟩=some (.int .i64 (-1)):=by rw [b1,hi0];rfl
    have hlt3:(-1:Int)<r.body.length:=by omega
    clear b3 hL hs b1 hi0 hlt2
   case' inr=>
    have g: ∀j v,(qaf L (.slice aa L.atom.args.length caps))[j]?=some v->wr.cell? ⟨b,off+m*7+j,none⟩=some v:=fun j v h=>Xhst.o.v.2.cell (hcl j v h) hb;have d0:=g 0 _ rfl;have d1:=g 1 _ rfl;have d2:=g 2 _ rfl;have d3:=g 3 _ rfl;have d4:=g 4 _ rfl;have d5:=g 5 _ rfl;have d6:=g 6 _ rfl;simp only [Nat.add_zero]at d0;have g0:=b3 0 _ rfl;have g1:=b3 1 _ rfl;have g2:=b3 2 _ rfl;have g3:=b3 3 _ rfl;have g4:=b3 4 _ rfl;have g5:=b3 5 _ rfl;have g6:=b3 6 _ rfl;simp only [Nat.zero_add,Nat.add_zero]at g0 g1 g2 g3 g4 g5 g6;have b1':wr.cell? ⟨Bi,0,none⟩=some (.int .i64 (m:Int)):=by rw [b1,him];congr 2;omega
    have hlt3:(m:Int)<r.body.length:=by omega
    have hm0:(0:Int)<=m:=by omega
    have hbw:b<wr.heap.size:=by omega
    have hBxw:Bx<wr.heap.size:=by omega
    clear b3 g hcl b1 him hlt2
   all_goals
    gi_wp2;refine⟨trivial,rfl,(callsIn_wide.2 (q2r L _ _)).mono ?_⟩;rintro e w' ⟨rfl,rfl⟩;gi_wp2;refine qoj (fun Wr=>Keep (fun _=>True) wr Wr/\Wr.heap.size=wr.heap.size+2/\Wr.heap[wr.heap.size+1]?=some (.cells (qaf L (.slice aa L.atom.args.length caps)).toArray 64 (0,0))) ⟨kAl.trans kAl,by simp,by simpa using qh (wr.alloc _) _⟩ ?_;rintro Wr ⟨kW,sW,bW⟩;have hstW:=Xhst.o.keep XhJ.o hn0S hBxS kW (fun _ _=>trivial) (fun _ _=>trivial) trivial trivial trivial;refine qkq (gf:=142) (lb:= #[.pointer (some ⟨wr.heap.size+1,0,none⟩)]) rfl (qc6 Tryz.func142 (by kernel_rfl) rfl) (qwo n0 (wr.heap.size+1) w0 L _ Xhsa.o hn0) (fun _=>rfl) (fun _ h=>h.elim)
     ⟨bW,hstW.v.2⟩ (fun X Y hv hK=>qod hv hK (fun k hk=>by omega) (by omega))
     (fun k O X=> ∃Oo,StandsSt n0 Bx w0 rc J W.heap.size W.heap.size (W.heap.size+1) Bi (.func (.yield l) #[] #[]) (qaf r.headLit (.slice ah r.head.args.length caph)).toArray ((i:Int)-1) (r.off i+L.cnt k) Oo X/\(∀b,Oo b->b<Wr.heap.size∨O b)/\ ¬Oo (wr.heap.size+1)/\MarksAt Ds Oo X)
     (fun c k O X=>qst c/\ ∃j Oo,j<r.stands.length/\Jx j Oo X/\qgb n0 Bx w0 rc X/\(∀b,Oo b->b<Wr.heap.size∨O b)/\MarksAt Ds Oo X) ?hI ?hIx ?h0 ?round ?done ?stop
    case hI=>
     rintro k O X Y ⟨Oo,h1,h2,h3,h4⟩ hK;exact⟨Oo,h1.keep XhJ.o hn0S hBxS hK (fun b hb=>.inl ⟨by omega,fun h=>h⟩) (fun b hb=>(h2 b hb).elim (fun h=>.inl ⟨h,fun h=>h⟩) .inr) (.inl ⟨by omega,fun h=>h⟩) (.inl ⟨by omega,fun h=>h⟩) (.inl ⟨by omega,fun h=>h⟩),h2,h3,
      h4.keep hK (fun D hD=>.inl ⟨by have:=XhDlt.o D hD;omega,fun h=>h⟩) (fun _ _ h=>h)⟩
    case hIx=>
     rintro c k O X Y ⟨hc,j,Oo,hj,h1,h2,h3,h4⟩ hK;exact⟨hc,j,Oo,hj,XhJx.o _ _ _ _ h1 (hK.mono fun b _ hb=>hb.elim (fun h=>.inl ⟨by have:=h.1;omega,fun h=>h⟩) (fun h=>(h3 b h).elim (fun h=>.inl ⟨h,fun h=>h⟩) .inr)),qck h2 hK (fun k hk=>.inl ⟨by omega,fun h=>h⟩) (.inl ⟨by omega,fun h=>h⟩),h3,
      h4.keep hK (fun D hD=>.inl ⟨by have:=XhDlt.o D hD;omega,fun h=>h⟩) (fun _ _ h=>h)⟩
    case h0=>
     refine⟨Oo,?_,fun b hb=>.inl (by have:=Xhst.o.o b hb;omega),fun h=>by have:=Xhst.o.o _ h;omega,XhDm.o.keep kW (fun _ _=>trivial) (fun _ _ h=>h)⟩;rw [q24];exact hstW
    case round=>
     intro lr k O X hBl hlX hOl hk hI hV hsz;obtain⟨Oo,hI,hO1,hO2,hO3⟩:=hI;obtain⟨t,ht⟩: ∃t,L.terms[k]?=some t:=⟨_,getElem?_eq_getElem hk⟩;have ht':L.terms.getD k default=t:=by simp [List.getD,ht]
     clear b1' b2 b1f e1 d0 d1 d2 d3 d4 d5 d6 hlt3 hstW kW
     try clear g0 g1 g2 g3 g4 g5 g6 hm0 hbw hBxw
     simp only [ht',TermD.val];refine qd9 ?_ ht hI hO1 hO2 hO3 hV hOl ht' hk bW;clear ht hI hO1 hO2 hO3 hV hOl ht' hk bW;intro Xht XhI XhO1 XhO2 XhO3 XhV XhOl Xht' Xhk XbW;gi_wp2;refine⟨kAl,fun Y hY hYs hYl=>?_⟩;have hXY:Keep (fun b=>b≠lr) X Y:=(Keep.alloc _ X _).trans hY;have nt:=hY.heap (qh X (.cells #[.bool t.var,.string t.text] 60)) (show X.heap.size≠lr by omega);have hIY:=XhI.o.keep XhJ.o hn0S hBxS hXY (fun b hb=>by omega) (fun b hb e=>(XhO1.o b hb).elim (fun h=>by omega) (fun h=>XhOl.o (e▸h))) (by omega) (by omega) (by omega);have hMY:=XhO3.o.keep (O':=Oo) hXY (fun D hD=>by have:=XhDlt.o D hD;omega) (fun _ _ h=>h);have hVY:=qod XhV.o hXY (fun k hk=>by omega) (by omega);have f1:=qbn hIY.y;have f2:=qbn hIY.i;have f3:=qb nt 0 _ rfl;have f4:=qb nt 1 _ rfl;simp only [Nat.zero_add,Nat.add_zero]at f3 f4;have hYs':Y.heap.size=X.heap.size+1:=by simpa using hYs
     have hcnt:=q25 Xht.o;clear hY hYs hYl;by_cases hv:t.var=true
     ·have hst2:=qzs (c:=L.cnt k) XhLi.o (List.getElem?_eq_some_iff.1 (qwr Xht.o hv)).1;have hu:=(List.getElem?_eq_some_iff.1 (qwr Xht.o hv)).2;rw [hu]at hst2;have hlt:=(List.getElem?_eq_some_iff.1 hst2).1;have hst3:r.stands.getD (r.off i+L.cnt k) default=((i:Int)-1,t.text):=by simp [List.getD,hst2]
      obtain⟨fn,tmps,assign,body,hy,hR⟩:=XhY.o (r.off i+L.cnt k) Oo Y hlt hIY.j hIY.v hIY.s;rw [hst3]at hy;simp only [hv,if_true]at hcnt;refine qiz ?_ hR hIY hMY hVY hXY hcnt nt hu hst2 hlt hst3;clear hR hIY hMY hVY hXY hcnt nt hu hst2 hlt hst3;intro XhR XhIY XhMY XhVY XhXY Xhcnt Xnt Xhu Xhst2 Xhlt Xhst3;gi_wp2;refine⟨rfl,RoundIn.mono (F:=inR lr) XhR.o ?_⟩;rintro e Z ⟨O',hA1,hA2,hKZ,hVZ,hJZ⟩;have hsZ:=hKZ.size;have hnew: ∀b,O' b->b<Y.heap.size->Oo b:=fun b hb hlt=>(hA2 b hb).elim id (fun h=>by omega);have hOZ: ∀b,O' b->b<Wr.heap.size∨O b∨(X.heap.size<=b/\O' b):=fun b hb=>(hA2 b hb).elim (fun h=>(XhO1.o b h).imp id .inl) (fun h=>.inr (.inr ⟨by omega,hb⟩));have hkp:Keep (fun b=>Wr.heap.size<=b/\b<X.heap.size/\ ¬O b) Y Z:=hKZ.mono (fun b _ h=>⟨by omega,fun ho=>(XhO1.o b ho).elim (fun h'=>by have:=h.1;omega) h.2.2⟩);have hMZ:=XhMY.o.keep (O':=O') hKZ (fun D hD=>⟨XhDs.o D hD,(XhMY.o D hD).1⟩) (fun D hD h ho=>h (hnew D ho (by have:=qe (XhMY.o D hD).2;omega)));have hVt:qiy n0 (wr.heap.size+1) w0 (qaf L (.slice aa L.atom.args.length caps)).toArray Z:=⟨hKZ.heap XhVY.o.1 ⟨by omega,XhO2.o⟩,hVZ.2⟩;have hnn: ¬O' (wr.heap.size+1):=fun h=>XhO2.o (hnew _ h (by omega));have hII:=XhIY.o;have hiy:=qe hII.y;have hih:=qe hII.h;have hii:=qe hII.i;rcases hJZ with ⟨rfl,hJZ⟩ |⟨rfl,hJZ⟩
      ·have hSt:StandsSt n0 Bx w0 rc J W.heap.size W.heap.size (W.heap.size+1) Bi (.func (.yield l) #[] #[]) (qaf r.headLit (.slice ah r.head.args.length caph)).toArray ((i:Int)-1) (r.off i+L.cnt (k+1)) O' Z:=
        {j:=by rw [Xhcnt.o];exact hJZ,v:=hVZ,s:=by omega,o:=fun b hb=>(hA2 b hb).elim (fun h=>by have:=hII.o b h;omega) (fun h=>h.2),y:=hKZ.heap hII.y ⟨hII.sy,hII.ny⟩,h:=hKZ.heap hII.h ⟨hII.sh,hII.nh⟩,i:=hKZ.heap hII.i ⟨hII.si,hII.ni⟩,ny:=fun h=>hII.ny (hnew _ h hiy),nh:=fun h=>hII.nh (hnew _ h hih),ni:=fun h=>hII.ni (hnew _ h hii),sy:=hII.sy,sh:=hII.sh,si:=hII.si}
       have hfin:qeh Wr.heap.size X.heap.size (qiy n0 (wr.heap.size+1) w0 (qaf L (.slice aa L.atom.args.length caps)).toArray) O Y Z (fun O''=> ∃Oo,StandsSt n0 Bx w0 rc J W.heap.size W.heap.size (W.heap.size+1) Bi (.func (.yield l) #[] #[]) (qaf r.headLit (.slice ah r.head.args.length caph)).toArray ((i:Int)-1) (r.off i+L.cnt (k+1)) Oo Z/\(∀b,Oo b->b<Wr.heap.size∨O'' b)/\ ¬Oo (wr.heap.size+1)/\MarksAt Ds Oo Z):=
        ⟨fun b=>O b∨(X.heap.size<=b/\O' b),fun b h=>.inl h,fun b h=>h.imp id (fun h=>⟨h.1,hSt.o b h.2⟩),hkp,hVt,O',hSt,hOZ,hnn,hMZ⟩
       clear hSt hMZ hVt hnn hkp hOZ hnew hJZ hII hKZ hVZ hA1 hA2;refine hd1 ?_ hfin;clear hfin;intro Xhfin;gi_wp2;exact Xhfin.o
      ·have hfin:qeh Wr.heap.size X.heap.size (qiy n0 (wr.heap.size+1) w0 (qaf L (.slice aa L.atom.args.length caps)).toArray) O Y Z (fun O''=>qst .ret/\ ∃j Oo,j<r.stands.length/\Jx j Oo Z/\qgb n0 Bx w0 rc Z/\(∀b,Oo b->b<Wr.heap.size∨O'' b)/\MarksAt Ds Oo Z):=
        ⟨fun b=>O b∨(X.heap.size<=b/\b<Z.heap.size/\O' b),fun b h=>.inl h,fun b h=>h.imp id (fun h=>⟨h.1,h.2.1⟩),hkp,hVt,rfl,_,O',Xhlt.o,hJZ,hVZ,fun b hb=>(hA2 b hb).elim (fun h=>(XhO1.o b h).imp id .inl) (fun h=>.inr (.inr ⟨by omega,h.2,hb⟩)),hMZ⟩
       clear hMZ hVt hnn hkp hOZ hnew hJZ hII hKZ hVZ hA1 hA2;refine hd1 ?_ hfin;clear hfin;intro Xhfin;gi_wp2;exact Xhfin.o
     ·have hv':t.var=false:=by simpa using hv
      simp only [hv',if_false,Nat.add_zero,Bool.false_eq_true]at hcnt;have hfin:qeh Wr.heap.size X.heap.size (qiy n0 (wr.heap.size+1) w0 (qaf L (.slice aa L.atom.args.length caps)).toArray) O Y Y (fun O''=> ∃Oo,StandsSt n0 Bx w0 rc J W.heap.size W.heap.size (W.heap.size+1) Bi (.func (.yield l) #[] #[]) (qaf r.headLit (.slice ah r.head.args.length caph)).toArray ((i:Int)-1) (r.off i+L.cnt (k+1)) Oo Y/\(∀b,Oo b->b<Wr.heap.size∨O'' b)/\ ¬Oo (wr.heap.size+1)/\MarksAt Ds Oo Y):=
       ⟨O,fun b h=>h,fun b h=>.inl h,Keep.refl _ _,hVY,Oo,by rw [hcnt];exact hIY,XhO1.o,XhO2.o,hMY⟩
      clear hv hIY hMY hVY hXY hcnt nt;refine hd1 ?_ hfin;clear hfin;intro Xhfin;gi_wp2;refine⟨fun _ h=>(by cases h),?_⟩;gi_wp2;exact Xhfin.o
    case done=>
     rintro D O Wd hD hOD hWD hsd ⟨Oo,hI,hO1,hO2,hO3⟩ hV;have f2:=qbn hI.i;have hbd:=qe hI.i;have hbi2:=hI.si;rw [q5d,←Xhoff.o]at hI;have hDm:MarksAt (D::Ds) Oo Wd:=fun E hE=>by
      rcases mem_cons.1 hE with rfl |hE
      ·exact⟨fun h=>(hO1 _ h).elim (fun h=>by omega) hOD,hWD⟩
      ·exact hO3 E hE
     have hDn:(D::Ds).Nodup:=nodup_cons.2 ⟨fun h=>by have:=XhDlt.o D h;omega,XhDn.o⟩;have hDs: ∀E,E∈D::Ds->W.heap.size<=E:=fun E hE=>by
      rcases mem_cons.1 hE with rfl |hE
      ·omega
      ·exact XhDs.o E hE
     have hlit:=(List.getElem?_eq_some_iff.1 XhLi.o).1;clear b1' b2 b1f e1 d0 d1 d2 d3 d4 d5 d6 hlt3 hstW kW XhDn XhDs XhDm
     try clear g0 g1 g2 g3 g4 g5 g6 hm0 hbw hBxw
     refine qd9 ?_ hI hO1 hO2 hO3 hV hWD hDm hDn hDs hlit;clear hI hO1 hO2 hO3 hV hWD hDm hDn hDs hlit;intro XhI XhO1 XhO2 XhO3 XhV XhWD XhDm XhDn XhDs Xhlit;have hil:(i:Int)<=1099511627776:=by have:=Xhlit.o;simp [RuleD.lits] at this;omega
     have hil0:(0:Int)<=i:=by omega
     gi_wp2;refine⟨⟨_,_,_,_,_,_,_,_,_,_,_,_,_,_,_,_,_,_,_,_,_,_,_,_,_,_,_,_,_,_,_,_,_,_,_,_,_,_,_,_,⟨i+1,Oo,Wd.heap.size,D::Ds,by have:=Xhlit.o;omega,rfl,rfl,rfl,rfl,?_,rfl,XhDn.o,XhDs.o,XhDm.o.keep kAl (fun _ _=>trivial) (fun _ _ h=>h)⟩,rfl⟩,?_⟩
     ·have hI2:=XhI.o.keep (C:=fun _=>True) XhJ.o hn0S hBxS (Keep.alloc _ Wd (.cells #[.int .i64 (i:Int)] 3)) (fun _ _=>trivial) (fun _ _=>trivial) trivial trivial trivial;have hn:=qh Wd (.cells #[.int .i64 (i:Int)] 3);have he:((i+1:Nat):Int)-1=i:=by omega
      exact {hI2 with i:=by rw [he];exact hn,ni:=fun h=>by have:=XhI.o.o _ h;omega,si:=by omega}
     ·have h1:=qra (w:=wr) (q:=⟨Bi,0,none⟩) (qbn Xhst.o.i);have h2:=qra (w:=Wd.alloc (.cells #[.int .i64 (i:Int)] 3)) (q:=⟨Wd.heap.size,0,none⟩) (qbn (qh Wd _));have:=Xhlit.o;simp [RuleD.lits]at this;simp only [Array.getD_eq_getD_getElem?,getElem?_toArray,getElem?_cons_succ,getElem?_cons_zero,Option.getD_some,h1,h2];omega
    case stop=>
     rintro D c k O Wd hD hOD hWD hsd hk ⟨hret,j,Oo,hj,hJ1,hV1,hO1,hO3⟩ hV;obtain rfl:c=.ret:=hret;have hDm:MarksAt (D::Ds) Oo Wd:=fun E hE=>by
      rcases mem_cons.1 hE with rfl |hE
      ·exact⟨fun h=>(hO1 _ h).elim (fun h=>by omega) hOD,hWD⟩
      ·exact hO3 E hE
     have hDn:(D::Ds).Nodup:=nodup_cons.2 ⟨fun h=>by have:=XhDlt.o D h;omega,XhDn.o⟩;have hDs: ∀E,E∈D::Ds->W.heap.size<=E:=fun E hE=>by
      rcases mem_cons.1 hE with rfl |hE
      ·omega
      ·exact XhDs.o E hE
     clear b1' b2 b1f e1 d0 d1 d2 d3 d4 d5 d6 hlt3 hstW kW XhDn XhDs XhDm
     try clear g0 g1 g2 g3 g4 g5 g6 hm0 hbw hBxw
     refine hd8 ?_ hJ1 hO1 hV hV1 hWD hDm hDn hDs;clear hJ1 hO1 hV hV1 hWD hDm hDn hDs;intro XhJ1 XhO1 XhV XhV1 XhWD XhDm XhDn XhDs;gi_wp2;refine qgl (D::Ds) _ XhDn.o (fun E hE=>(XhDm.o E hE).2) (fun w' hK hs=>qbx (results_none rfl _ _ _) ?_);exact⟨⟨_,rfl⟩,by omega,qck XhV1.o hK (fun b hb h=>by have:=XhDs.o b h;omega) (fun h=>by have:=XhDs.o _ h;omega),Oo,.inr ⟨j,hj,XhJx.o _ _ _ _ XhJ1.o (hK.mono fun b _ hb=>hb.elim (fun h h'=>by have:=XhDs.o b h';omega) (fun h h'=>(XhDm.o b h').1 h))⟩⟩
  ·have hie:i=r.lits.length:=by omega
   subst hie;have hst2:=hst;rw [q5c]at hst2;have hge: ¬(((r.lits.length:Nat):Int)-1<r.body.length):=by simp [RuleD.lits]
   have hil:(r.lits.length:Int)<=1099511627777:=by simp [RuleD.lits];omega
   clear hlt hi;refine hd3 ?_ hst hst2 b3;clear hst hst2 b3;intro Xhst Xhst2 Xb3;gi_wp2;refine qgl Ds _ XhDn.o (fun E hE=>(XhDm.o E hE).2) (fun w' hK hs=>qbx (results_none rfl _ _ _) ?_);exact⟨⟨_,rfl⟩,by omega,qck Xhst2.o.v hK (fun b hb h=>by have:=XhDs.o b h;omega) (fun h=>by have:=XhDs.o _ h;omega),Oo,.inl (XhJ.o _ _ _ _ Xhst2.o.j (hK.mono fun b _ hb=>hb.elim (fun h h'=>by have:=XhDs.o b h';omega) (fun h h'=>(XhDm.o b h').1 h)))⟩
theorem qqy:qce prog 46 9 1 16:=qcx (z:=.string ⟨#[]⟩) (by kernel_rfl) (by kernel_rfl) rfl (by decide) (by decide)
theorem qqk (r:RuleD)(ah:Option Addr)(nh ch:Nat)(ab:Option Addr)(nb cb:Nat)(w:World):Calls prog 80 #[.agg #[.string r.head.pred,.slice ah nh ch,.slice ab nb cb]] w fun e w'=>
  e=.returned (.func (.func 114) #[] #[.pointer (some ⟨w.heap.size,0,none⟩)])/\w'=w.alloc (.cells (qcj r (.slice ah nh ch) (.slice ab nb cb)).toArray 27):=by
 go_enter Tryz.func80,Tryz.ntmps80
 go_wp2;go_ret;exact⟨rfl,rfl⟩
structure CollectSt (B n1 Bo Bm M:Nat)(w:World)(O:Nat->Prop)(ss:List ByteArray)(W:World):Prop where
 own: ∃v,W.heap[Bo]?=some (.cells #[v] 46 (0,0))/\W.ownsRow n1 9 1 v ss.length (ss.map .string)/\ ∀b,v.ownBlock=some b->O b/\B<=b
 mbox:W.heap[Bm]?=some (.cells #[.map (some M)] 144 (0,0))
 set:SetIn W M ss
 old:Keep (fun k=>k<n1) w W
theorem CollectSt.keep {B n1 Bo Bm M:Nat}{w:World}{O:Nat->Prop}{ss:List ByteArray}{W W':World}{C:Nat->Prop}(h:CollectSt B n1 Bo Bm M w O ss W)(hK:Keep C W W')
  (ho:C Bo) (hm:C Bm) (hM:C M) (hO: ∀b,O b->C b) (hn: ∀b,b<n1->C b):CollectSt B n1 Bo Bm M w O ss W':=by
 obtain⟨⟨v,h1,h2,h3⟩,h4,h5,h6⟩:=h;exact⟨⟨v,hK.heap h1 ho,qg h2 hK (fun b hb=>hO b (h3 b hb).1),h3⟩,hK.heap h4 hm,h5.keep hK hM,h6.trans (hK.mono fun b _ hb=>hn b hb)⟩
set_option maxRecDepth 100000 in
set_option maxHeartbeats 2000000 in
theorem q4w (r:RuleD)(sh sb:Value)(w:World)(hr:RuleIn w.heap.size w sh sb r)(hN:r.stands.length<=1073741824):
  Calls prog 113 #[.agg #[.string r.head.pred,sh,sb]] w fun e w'=>
   ∃v,e=.returned v/\Keep (fun k=>k<w.heap.size) w w'/\w'.ownsRow w.heap.size 9 1 v (qa9 r.names).length ((qa9 r.names).map .string):=by
 refine qfu Tryz.func113 rfl ?_;simp only [Tryz.ntmps113,qdz,Nat.reduceAdd,Nat.reduceSub];obtain⟨⟨ah,capH,rfl,hlenh,hcaph,helh⟩,⟨ab,capB,rfl,hlenb,hcapb,helb⟩⟩:=id hr;have hmm:= @run_makeMap prog;refine hd3 ?_ hr helh helb;clear hr helh helb;intro Xhr Xhelh Xhelb;gi_wp2;refine⟨trivial,rfl,(callsIn_wide.2 (qqk r _ _ _ _ _ _ _)).mono ?_⟩;rintro e w' ⟨rfl,rfl⟩;gi_wp2;refine qoj (fun Wr=>Keep (fun _=>True) w Wr/\Wr.heap.size=w.heap.size+1+1+1+1+1/\Wr.heap[w.heap.size+1]?=some (.cells #[.slice none 0 0] 46 (0,0))/\Wr.heap[w.heap.size+1+1]?=some (.map #[] 0)/\
   Wr.heap[w.heap.size+1+1+1]?=some (.cells #[.map (some (w.heap.size+1+1))] 144 (0,0))/\Wr.heap[w.heap.size+1+1+1+1]?=some (.cells (qcj r (.slice ah r.head.args.length capH) (.slice ab r.body.length capB)).toArray 27 (0,0)))
  ⟨(((kAl.trans kAl).trans kAl).trans kAl).trans kAl,by simp,by simp only [qah,World.size_alloc];simp,by simp only [qah,World.size_alloc];simp,by simp only [qah,World.size_alloc];simp,by simp only [qah,World.size_alloc];simp⟩ ?_
 rintro Wr ⟨kW,sW,h1,h2,h3,h4⟩;have hrW:=Xhr.o;refine qkq (gf:=114) (lb:= #[.pointer (some ⟨w.heap.size+1+1+1+1,0,none⟩)]) rfl (qc6 Tryz.func114 (by kernel_rfl) rfl)
  (qnj w.heap.size (w.heap.size+1+1+1+1) Wr r _ _ (qas hrW.1 (kW.mono fun _ _ _=>trivial)) (qim hrW.2 (kW.mono fun _ _ _=>trivial)) (by omega) (by omega)) (fun _=>rfl) (fun _ h=>h.elim)
  ⟨h4,Keep.refl _ _⟩ (fun X Y hv hK=>qck hv hK (fun k hk=>by omega) (by omega))
  (fun k O X=>CollectSt Wr.heap.size w.heap.size (w.heap.size+1) (w.heap.size+1+1+1) (w.heap.size+1+1) w O (qa9 (r.names.take k)) X)
  (fun c k O X=>False) ?hI ?hIx ?h0 ?round ?done ?stop
 case hI=>
  intro k O X Y h hK;exact h.keep hK (.inl ⟨by omega,fun h=>h⟩) (.inl ⟨by omega,fun h=>h⟩) (.inl ⟨by omega,fun h=>h⟩) (fun b hb=>.inr hb) (fun b hb=>.inl ⟨by omega,fun h=>h⟩)
 case hIx=>intro c k O X Y h;exact h.elim
 case h0=>exact⟨⟨_,h1,World.ownsRow_nil _ _ _ _,fun b hb=>by simp [Value.ownBlock] at hb⟩,h3,⟨#[],0,h2,rfl⟩,kW.mono fun _ _ _=>trivial⟩
 case round=>
  intro lr k O X hBl hlX hOl hk hI hV hsz;obtain⟨s,hs⟩:=ex ((r.stands.getD k default).2);have hs':r.names[k]?=some s:=by simp [RuleD.names,←hs,List.getD,getElem?_eq_getElem hk]
  rw [hs];clear h1 h2 h3 h4 kW hmm;refine hd7 ?_ hI hs hs' hV hk hOl hrW;clear hI hs hs' hV hk hOl hrW;intro XhI Xhs Xhs' XhV Xhk XhOl XhrW;gi_wp2;refine⟨Keep.refl _ _,fun Y hY hYs hYl=>?_⟩;have hIY:=XhI.o.keep hY (by omega) (by omega) (by omega) (fun b hb e=>XhOl.o (e▸hb)) (fun b hb=>by omega);have hVY:=qck XhV.o hY (fun b hb=>by omega) (by omega);obtain⟨⟨v,c1,c2,c3⟩,c4,c5,c6⟩:=id hIY;have d1:=qbn c1;have d1f:=qf c1 0;have d2:=qbn c4;have hlk:=qh9 (P:=prog) (T:=144) (K:=9) (E:=4) Tryz.underlying144 Tryz.underlying9 (fun _=>by kernel_rfl) c5 s;have htk:qa9 (r.names.take (k+1))=if s∈qa9 (r.names.take k) then qa9 (r.names.take k) else qa9 (r.names.take k)++ [s]:=by
   rw [←qhs,take_add_one,Xhs'.o];rfl
  have hfin: ∀(O':Nat->Prop) (Z:World),(∀b,O b->O' b)->(∀b,O' b->O b∨(X.heap.size<=b/\b<Z.heap.size))->Keep (fun b=>Wr.heap.size<=b/\b<X.heap.size/\ ¬O b) Y Z->qgb w.heap.size (w.heap.size+1+1+1+1) Wr (qcj r (.slice ah r.head.args.length capH) (.slice ab r.body.length capB)).toArray Z->
    CollectSt Wr.heap.size w.heap.size (w.heap.size+1) (w.heap.size+1+1+1) (w.heap.size+1+1) w O' (qa9 (r.names.take (k+1))) Z->
    qeh Wr.heap.size X.heap.size (qgb w.heap.size (w.heap.size+1+1+1+1) Wr (qcj r (.slice ah r.head.args.length capH) (.slice ab r.body.length capB)).toArray) O Y Z (fun O'=>CollectSt Wr.heap.size w.heap.size (w.heap.size+1) (w.heap.size+1+1+1) (w.heap.size+1+1) w O' (qa9 (r.names.take (k+1))) Z):=fun O' Z a b c d e=>⟨O',a,b,c,d,e⟩
  by_cases hin:s∈qa9 (r.names.take k)
  ·have hin':decide (s∈qa9 (r.names.take k))=true:=by simpa using hin
   rw [hin']at hlk;rw [if_pos hin]at htk;have hf:=hfin O Y (fun _ h=>h) (fun _ h=>.inl h) (Keep.refl _ _) hVY (by rw [htk];exact hIY);clear hfin hIY hVY c1 c2 c3 c4 c5 c6 htk hin hin' hY hYs hYl d1 d1f;refine hd1 ?_ hf;clear hf;intro Xhf;gi_wp2;exact Xhf.o
  ·have hin':decide (s∈qa9 (r.names.take k))=false:=by simpa using hin
   rw [hin']at hlk;rw [if_neg hin]at htk;obtain⟨W1,hr1,hs1,hk1,hz1⟩:=qia (P:=prog) (T:=144) (K:=9) (E:=4) Tryz.underlying144 Tryz.underlying9 c5 s;rw [if_neg hin]at hs1;have e1:=hk1.heap c1 (by omega);have hYs2:Y.heap.size=X.heap.size:=hYs;have e2:W1.ownsRow w.heap.size 9 1 v (qa9 (r.names.take k)).length ((qa9 (r.names.take k)).map .string):=qg c2 hk1 (fun b hb=>by have:=(c3 b hb).2;omega);have d3:=qbn e1;have d3f:=qf e1 0;have hlen1:(qa9 (r.names.take k)).length<=1073741824:=by have:=qml (r.names.take k);have:r.names.length=r.stands.length:=(by simp [RuleD.names]);simp at*;omega
   have hWs:=c6.size;obtain⟨v2,W2,hr2,ho2,hk2,g2,cap2,hv2,hg2,hl2⟩:=qc4 qqy 46 e2 [.string s] rfl (by simp [Value.oneCell']) (by omega) (by omega);subst hv2;have hnb: ∀b,b<Wr.heap.size->some b≠v.ownBlock:=fun b hb e=>by have:=(c3 b e.symm).2;omega
   have e4':=hk2.heap e1 (hnb _ (by omega));have e4:=qbn e4';have e4f:=qf e4' 0;have hZs:(W2.setCell ⟨w.heap.size+1,0,none⟩ (.slice (some ⟨g2,0,none⟩) ((qa9 (r.names.take k)).length+1) cap2)).heap.size=W2.heap.size:=by simp [World.setCell]
   have hg3:O g2∨X.heap.size<=g2:=hg2.imp (fun h=>(c3 _ h).1) (fun h=>by omega);have hg4:Wr.heap.size<=g2:=hg2.elim (fun h=>(c3 _ h).2) (fun h=>by omega);have k3: ∀u,Keep (fun b=>b≠w.heap.size+1) W2 (W2.setCell ⟨w.heap.size+1,0,none⟩ u):=fun u=>kSc;have kall:Keep (fun b=>b≠w.heap.size+1/\b≠w.heap.size+1+1/\some b≠v.ownBlock) Y (W2.setCell ⟨w.heap.size+1,0,none⟩ (.slice (some ⟨g2,0,none⟩) ((qa9 (r.names.take k)).length+1) cap2)):=
    ((hk1.mono fun b _ h=>h.2.1).trans (hk2.mono fun b _ h=>h.2.2)).trans ((k3 _).mono fun b _ h=>h.1)
   have hf:=hfin (fun b=>O b∨b=g2) (W2.setCell ⟨w.heap.size+1,0,none⟩ (.slice (some ⟨g2,0,none⟩) ((qa9 (r.names.take k)).length+1) cap2)) (fun _ h=>.inl h)
    (fun b h=>h.elim .inl (fun e=>by subst e;exact hg3.imp id (fun h=>⟨h,by omega⟩)))
    (kall.mono fun b _ h=>⟨by omega,by omega,fun e=>h.2.2 (c3 b e.symm).1⟩)
    (qck hVY kall (fun b hb=>⟨by omega,by omega,hnb b (by omega)⟩) ⟨by omega,by omega,hnb _ (by omega)⟩)
    (by
     rw [htk];refine⟨⟨_,qgu _ e4',?_,fun b hb=>?_⟩,kall.heap c4 ⟨by omega,by omega,hnb _ (by omega)⟩,(hs1.keep hk2 (hnb _ (by omega))).keep (k3 _) (by omega),c6.trans (kall.mono fun b _ hb=>⟨by omega,by omega,hnb b (by omega)⟩)⟩
     ·simp only [length_append,length_cons,length_nil,map_append,map_cons,map_nil,if_neg hin];exact qg ho2 (k3 _) (fun b hb=>by simp [Value.ownBlock] at hb;omega)
     ·simp only [Value.ownBlock,Option.some.injEq]at hb;exact⟨.inr hb.symm,by omega⟩)
   clear hfin hIY hVY c1 c2 c3 c4 c5 c6 htk hin hin' hY hYs hYl hs1 hk1 hz1 e2 ho2 hk2 hg2 e1 e4' kall k3 hnb hg3 hZs;refine hd2 ?_ hr2 hf;clear hr2 hf;intro Xhr2 Xhf
   gi_wp2_with (gi_at_builtin;refine qch rfl _ _ _ rfl rfl rfl Xhr2.o ?_)
   exact Xhf.o
 case done=>
  rintro D O W hD hOD hWD hsd hI hV;have hall:r.names.take r.stands.length=r.names:=take_of_length_le (by simp [RuleD.names]);rw [hall]at hI;obtain⟨⟨v,c1,c2,c3⟩,c4,c5,c6⟩:=hI;have d1:=qbn c1;clear h1 h2 h3 h4 kW hmm;refine qd9 ?_ c1 c2 c3 c4 c5 c6 hV hOD hWD hrW;clear c1 c2 c3 c4 c5 c6 hV hOD hWD hrW;intro Xc1 Xc2 Xc3 Xc4 Xc5 Xc6 XhV XhOD XhWD XhrW;gi_wp2;refine qg7 XhWD.o (qbx (results_tmp rfl _ _ _) ⟨v,rfl,?_,?_⟩)
  ·exact Xc6.o.trans (Keep.putObj _ _ _ (by omega))
  ·exact qg Xc2.o (Keep.putObj (C:=fun b=>b≠D) _ _ _ (by simp)) (fun b hb e=>XhOD.o (e▸(Xc3.o b hb).1))
 case stop=>intro D c k O W _ _ _ _ _ h;exact h.elim
end Go.Proofs.S12
