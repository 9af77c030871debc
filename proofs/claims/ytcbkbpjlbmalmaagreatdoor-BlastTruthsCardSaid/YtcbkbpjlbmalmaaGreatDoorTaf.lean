/-
  Steps one after the other; handles that are dropped. (Merged by program out of 27 texts.)
-/
import Derived.Test.YtcbkbpjlbmalmaaGreatDoorTae
import Derived.Shelf.SortM.Plain
import Derived.Shelf.SortM.SortNone
import Derived.Shelf.SlLaysM
open List renaming getElem?_eq_getElem->a7,take_succ_eq_append_getElem->a8,mem_iff_getElem->ab,map_append->ac,mem_singleton->ad,getElem_mem->ae,mem_append_right->ag,mem_append_left->ah,perm_append_comm_assoc->ai,mem_append->aj,mem_map->ak,range->am,length_map->ao,take->ap,drop->aq,mem_cons->au,map_cons->av,length_append->aw,getElem?_eq_none->ax,getElem_inj->ay,mem_cons_of_mem->az,countP_eq_length_filter->ba,mem_map_of_mem->bb,mergeSort_perm->bc,mem_take_iff_getElem->bf,getElem?_map->bh,nodup_range->bj,length_cons->bk,mem_filter->bo,range_succ->br,nodup_cons->bt,mem_range->bv,Perm.cons->bw,filter_eq_self->bx,mem_cons_self->bz,append_assoc->c0,pairwise_map->c7,foldl_append->c8,ext_getElem?->c9,Pairwise.map->ca,nodup_append->cb,take_length->cc,length_nil->cg,Perm.swap->ci
open Nat renaming zero_le->aa,le_refl->an,le_trans->c6,not_lt_zero->cf
open Classical renaming byContradiction->ar,not_not->bg
open Array renaming getElem?_eq_some_iff->be,getElem?_modify->bu
open Option renaming isSome_iff_exists->bi,getD_some->cd
open Int renaming toNat->bn,le_refl->ce,le_trans->cj
open Bool renaming eq_iff_iff->bq
namespace Go.Proofs.YtcbkbpjlbmalmaaGreatDoor
open Go Go.X Go.Y
section
variable {b:Nat} {S:B9} {H:HY} {X:PX} {Q:Int×Unit->UU}
theorem W1(a:Ca H b S)(h:Q (S.po.room,()) () H):qK Ij Fm (some b,()) H Q X:=by refine Q9 _ _ _ _ ?_;refine⟨λh=>qG h (by simp),λ_=>⟨b,rfl,S.ob,a.st,rfl,?_⟩⟩;refine SU _ _ _ _ ?_;exact⟨λh=>qG h (by simp [B9.ob]),λ_=>⟨S.bp,rfl,S.po,a.po,rfl,h⟩⟩
theorem Y4(a:Ca H b S)(h:Q (S.po.many,()) () H):qK IU FU (some b,()) H Q X:=by refine R2 _ _ _ _ ?_;refine⟨λh=>qG h (by simp),λ_=>⟨b,rfl,S.ob,a.st,rfl,?_⟩⟩;refine TY _ _ _ _ ?_;exact⟨λh=>qG h (by simp [B9.ob]),λ_=>⟨S.bp,rfl,S.po,a.po,rfl,h⟩⟩
theorem PM{level:Int}(hS:Ca H b S)(hI:SI S)(hrb:∀i,EU S.po i<=576460752303423488)(h2:¬(0<=level/\level<S.n-1)->Q (2,()) () H)(h7:∀S' H',(∃i d,Ax S.po i=some d)->Ca H' b S'->SI S'->Ym S S'->PH b S H H'->S'.lv=S.lv->Q (7,()) () H')(h:∀S' H'(x y:Int),0<=level->level<S.n-1->S.lv.vars[level.toNat]?=some x->S.lv.vars[level.toNat+1]?=some y->Ca H' b S'->SI S'->Ym S S'->PH b S H H'->S'.lv=swL S.lv level.toNat x y->(∀i d,Ax S'.po i=some d->0<F1 S'.cn i)->Q (0,()) () H'):qK Ec Dm (some b,level,()) H Q X:=by
 refine wF Tryz.f163 {lp:=[(17,⟨[(98,.nat)],[0,5,6,96,97],true⟩),(12,⟨[(77,.nat)],[0,5,6,7,75,76],true⟩)],hd:=[(19,[11])]} (?_:((some b)=none->Q (5,()) () H)/\(¬(some b)=none->(level<0->Q (2,()) () H)/\(¬level<0->∃(a:Nat),(some b)=some a/\∃(x:Ah),H a=some (Ob.st A8 x)/\∃(b1:Nat),x.levels=some b1/\x=x/\∃(x:AN),H b1=some (Ob.st CG x)/\(x.vars.length<=2^63-1->x.vars.length<=2^63-1->IK ((↑x.vars.length:Int)-1)/\((↑x.vars.length:Int)-1<=level->x=x/\Q (2,()) () H)/\(¬(↑x.vars.length:Int)-1<=level->x=x/\qK Dk C8 ((some b),()) H (λ(b2:Int×UT)_ G=>∃(x:Ah),G a=some (Ob.st A8 x)/\∃(b3:Nat),x.levels=some b3/\x=x/\∃(x:AN),G b3=some (Ob.st CG x)/\(IK level->(IK level->0<=level)/\∃(h:level.toNat<x.vars.length),∃(h:level.toNat<x.vars.length),x=x/\∃(x1:Ah),G a=some (Ob.st A8 x1)/\∃(b4:Nat),x1.levels=some b4/\x1=x1/\∃(x2:AN),G b4=some (Ob.st CG x2)/\(IK level->IK (level+1)/\(IK (level+1)->(IK (level+1)->0<=level+1)/\∃(h1:(level+1).toNat<x2.vars.length),∃(h2:(level+1).toNat<x2.vars.length),x2=x2/\qK Ln HX ((some b),x.vars[level.toNat],x2.vars[(level+1).toNat],()) G (λ(b5:List AA×UT)_ G=>qK K6 Hm ((some b),x.vars[level.toNat],b5.1,()) G (λ(b6:Int×UT)_ G=>qK Ij Fm ((some b),()) G (λ(b7:Int×UT)_ G=>qK IU FU ((some b),()) G (λ(b8:Int×UT)_ G=>IK b7.1->IK b8.1->IK (b7.1-b8.1)/\(b7.1-b8.1<b6.1->Q ((7:Int),()) () G)/\(¬b7.1-b8.1<b6.1->∃(x3:Ah),G a=some (Ob.st A8 x3)/\x3=x3/\qK K5 Hl (x3.levels,level,()) G (λ(b9 io:UT)(G:HY)=>b5.1.length<=(2^63-1:Nat)->∃(V:Nat->Nat×UT->HP),(∃(n:Nat),V n (0,()) G)/\∀n x4 H,V n x4 H->(x4.1<b5.1.length->x4.1<=(2^63-1:Nat)->∃(h3:x4.1<b5.1.length),∃(x5:Ah),H a=some (Ob.st A8 x5)/\(IK x.vars[level.toNat]->(IK x.vars[level.toNat]->0<=x.vars[level.toNat])/\∃(h4:x.vars[level.toNat].toNat<x5.tables.length),∃(h5:x.vars[level.toNat].toNat<x5.tables.length),x5=x5/\qK DS Dl (x5.tables[x.vars[level.toNat].toNat],b5.1[x4.1].n.Lo,b5.1[x4.1].n.Hi,()) H (λ(a:Int×UT)_ G=>x4.1+1<=(2^63-1:Nat)/\∃m,m<n/\V m (x4.1+1,()) G) X))/\(¬x4.1<b5.1.length->b5.1.length<=(2^63-1:Nat)->∃(V:Nat->Nat×UT->HP),(∃(n:Nat),V n (0,()) H)/\∀n x5 H,V n x5 H->(x5.1<b5.1.length->x5.1<=(2^63-1:Nat)->∃(h3:x5.1<b5.1.length),qK Da C5 ((some b),x.vars[level.toNat],b5.1[x5.1].ll,b5.1[x5.1].hl,()) H (λ(b10:Int×UT)_ G=>qK Da C5 ((some b),x.vars[level.toNat],b5.1[x5.1].lh,b5.1[x5.1].hh,()) G (λ(b11:Int×UT)_ G=>qK B5 Bt ((some b),b10.1,()) G (λ(b12 io:UT)(G:HY)=>qK B5 Bt ((some b),b11.1,()) G (λ(b13 io:UT)(G:HY)=>∃(x:Ah),G a=some (Ob.st A8 x)/\x=x/\qK BZ BP (x.DZ,{ID:=b5.1[x5.1].n.ID,Var:=x2.vars[(level+1).toNat],Lo:=b10.1,Hi:=b11.1,Refs:=b5.1[x5.1].n.Refs:Au},()) G (λ(b14:Int×UT)_ G=>∃(x:Ah),G a=some (Ob.st A8 x)/\(IK x2.vars[(level+1).toNat]->(IK x2.vars[(level+1).toNat]->0<=x2.vars[(level+1).toNat])/\∃(h:x2.vars[(level+1).toNat].toNat<x.tables.length),∃(h:x2.vars[(level+1).toNat].toNat<x.tables.length),x=x/\qK Dr CK (x.tables[x2.vars[(level+1).toNat].toNat],b10.1,b11.1,b5.1[x5.1].n.ID,()) G (λ(a:Int×UT)_ G=>qK B6 Bu ((some b),b5.1[x5.1].n.Lo,()) G (λ(a io:UT)(G:HY)=>qK B6 Bu ((some b),b5.1[x5.1].n.Hi,()) G (λ(a io:UT)(G:HY)=>x5.1+1<=(2^63-1:Nat)/\∃m,m<n/\V m (x5.1+1,()) G) X) X) X)) X) X) X) X) X)/\(¬x5.1<b5.1.length->qK Dk C8 ((some b),()) H (λ(a:Int×UT)_ G=>Q ((0:Int),()) () G) X))) X)) X) X) X) X)))) X)))));have A:(S.lv.vars.length:Int)=S.n:=by unfold B9.n;rw[hI.vl]
 have hn64:=hI.BS.od.n64;refine⟨λh=>qG h (by simp),λ_=>⟨λhl=>h2 (by omega),λhl=>⟨b,rfl,S.ob,hS.st,S.bl,rfl,rfl,S.lv,hS.lv,λ_ _=>⟨A7.2 (by omega),λT=>⟨rfl,h2 (by omega)⟩,λT=>⟨rfl,?_⟩⟩⟩⟩⟩;rw[A]at T;refine GH hS hI λa H1 _ Y l f f1=>?_;have hn1:a.n=S.n:=by unfold B9.n;rw[f.tb]
 have E:=Ux hI l f;have hvl1:(a.lv.vars.length:Int)=S.n:=by rw[f.lv];exact A
 obtain⟨k,hk⟩:∃k:Nat,level=k:=⟨level.toNat,by omega⟩
 subst hk;have t0:((k:Int)).toNat=k:=by omega
 have t1:((k:Int)+1).toNat=k+1:=by omega
 have J:k<a.lv.vars.length:=by omega
 have I:k+1<a.lv.vars.length:=by omega
 have ik:Bn .i64 ((k:Int)+1):=A7.2 (by omega);refine⟨a.ob,Y.st,a.bl,rfl,rfl,a.lv,Y.lv,λ_=>⟨λ_=>by omega,by omega,by omega,rfl,a.ob,Y.st,a.bl,rfl,rfl,a.lv,Y.lv,λ_=>⟨ik,λ_=>⟨λ_=>by omega,by omega,by omega,rfl,?_⟩⟩⟩⟩;generalize hx:a.lv.vars[((k:Int)).toNat]'_=x;generalize hy:a.lv.vars[((k:Int)+1).toNat]'_=y;replace hx:a.lv.vars[k]=x:=hx;replace hy:a.lv.vars[k+1]=y:=hy;have C:a.lv.vars[k]?=some x:=by rw[a7 J,hx]
 have D:a.lv.vars[k+1]?=some y:=by rw[a7 I,hy]
 have u:=l.inv k x C;have F:=l.inv (k+1) y D;have O:=l.sc.po;refine Wz Y l ⟨u.1,u.2.1⟩ λL H2 U f2 l1 l2 l3 l4=>?_;have Z:∀t∈L,∀p∈XG t,0<=p.2:=λt ht p hp=>by
  have e:=l3 t ht;have M:=Hf e.nd;rw[e.v]at M;have q1:=l.BS.four B9.Ko ⟨F.1,F.2.1⟩ (by grind) M rfl _ (.inr rfl);simp only at q1;rw[show B.sp (Ax a.po) y t.n.Hi=(t.hl,t.hh) from e.h.symm]at q1;rcases au.1 hp with rfl|hp
  .exact q1.1.1
  .rw[ad]at hp;subst hp;exact q1.2.1.1
 refine UG U ⟨u.1,u.2.1⟩ Z l2 λK k1 k2 k3=>?_;replace k2:K.length<=2*L.length:=k2;have hfree:a.po.free.length<=a.po.at_.length:=Ago (λi:Int=>i.toNat) O.nd (λi hi=>by have:=O.fr i hi;omega) λi hi j hj e=>by have:=O.fr i hi;have:=O.fr j hj;have e:i.toNat=j.toNat:=e;omega
 have hlen:=O.len;have hroom:=O.room;have hcnt:=O.cnt;refine W1 U (Y4 U λ_ _=>⟨?_,λhlt=>?_,λhge=>?_⟩)
 .exact A7.2 (by show _<=a.po.room-a.po.many/\a.po.room-a.po.many<=_;omega)
 .have hlt:a.po.room-a.po.many<(K.length:Int):=hlt;refine h7 a H2 ?_ U l E (f1.trans f2 f.bl f.bp f.tb) f.lv;have:0<L.length:=by omega
  obtain⟨t,ht⟩:=List.exists_mem_of_length_pos this;have M:=Hf (l3 t ht).nd;rw[f.Ax]at M;split at M
  .cases M
  .exact⟨_,_,M⟩
 have hge:¬a.po.room-a.po.many<(K.length:Int):=hge;have cx:Cx a x y L K:=⟨l,VX hI f,⟨u.1,u.2.1⟩,⟨F.1,F.2.1⟩,by rw[u.2.2,F.2.2];omega,l1,l3,l4,k1,k3,by omega⟩
 have V:x.toNat<a.tb.length:=by have:=u.2.1;unfold B9.n at this;omega
 have hy':y.toNat<a.tb.length:=by have:=F.2.1;unfold B9.n at this;omega
 refine⟨_,U.st,rfl,?_⟩;refine Vr U.lv C D ⟨u.1,by rw[l.ll];exact V⟩ ⟨F.1,by rw[l.ll];exact hy'⟩ (by omega) λ_=>?_;obtain⟨P,f3⟩:=U.A3d (swL a.lv k x y);refine⟨λn z H'=>n=L.length-z.1/\z.1<=L.length/\∃S',Ctt a (swL a.lv k x y) x L z.1 S'/\Ca H' b S'/\PH b a H1 H',⟨_,rfl,aa _,{a with lv:=swL a.lv k x y},⟨rfl,l.tn,λlo hi i=>?_,λv hv _=>l.tg v hv⟩,P,f2.trans f3.n rfl rfl rfl⟩,?_⟩
 .have:=l.tg x.toNat V lo hi i;rw[show ((x.toNat:Nat):Int)=x by omega]at this;simpa using this
 rintro n ⟨q,_⟩ H3 ⟨r,s,W,G,P,f3⟩;have hn:n=L.length-q:=r;have hq:q<=L.length:=s;replace G:Ctt a (swL a.lv k x y) x L q W:=G;have tb3:W.tb=a.tb:=by rw[G.eq]
 refine⟨λg _=>?_,λg _=>?_⟩
 .have c:q<L.length:=g;obtain⟨e1,ct2⟩:=G.step cx c;have o:x.toNat<W.tb.length:=by rw[tb3];exact V
  refine⟨c,_,P.st,λ_=>⟨λ_=>u.1,by simpa [B9.ob] using o,by simpa [B9.ob] using o,rfl,?_⟩⟩;have hob:W.ob.tables[x.toNat]'(by simpa [B9.ob] using o)=some W.tb[x.toNat]:=by simp [B9.ob]
  rw[hob];refine UF (P.ta _ o) e1 ⟨by show q+1<=_;omega,L.length-(q+1),by omega,rfl,by show q+1<=_;omega,_,ct2,(P.Alf o _).1,f3.trans (P.Alf o _).2.n (by rw[G.eq]) (by rw[G.eq]) tb3⟩
 have c:¬q<L.length:=g;have:q=L.length:=by omega
 subst this;obtain⟨m0,sc0⟩:=G.mid cx;have hrb1:∀i,EU a.po i<=576460752303423488:=λi=>by rw[f.rf];exact hrb i
 refine⟨λn z H'=>n=L.length-z.1/\z.1<=L.length/\∃S',Xa a x y L K z.1 S'/\SC S' (EU a.po)/\Ca H' b S'/\PH b a H1 H'/\S'.lv=swL a.lv k x y,⟨_,rfl,aa _,W,m0,sc0,P,f3,by rw[G.eq]⟩,?_⟩;rintro n2 ⟨q,_⟩ H4 ⟨r,s,S4,w,sc4,s4,f4,v4⟩;have hn2:n2=L.length-q:=r;have hq:q<=L.length:=s;replace w:Xa a x y L K q S4:=w;refine⟨λg _=>?_,λg=>?_⟩
 .have c:q<L.length:=g;refine⟨c,?_⟩;exact Am2 (N:=λH'=>q+1<=9223372036854775807/\∃m,m<n2/\(m=L.length-(q+1)/\q+1<=L.length/\∃S',Xa a x y L K (q+1) S'/\SC S' (EU a.po)/\Ca H' b S'/\PH b a H1 H'/\S'.lv=swL a.lv k x y)) cx hrb1 w c sc4 s4 λS5 H5 m5 sc5 s5 f5 v5=>⟨by omega,L.length-(q+1),by omega,rfl,by omega,S5,m5,sc5,s5,f4.trans f5.n w.bl w.bp w.tb,v5.trans v4⟩
 .have c:¬q<L.length:=g;have:q=L.length:=by omega
  subst this;obtain⟨i4,chg4⟩:=w.si cx C D sc4 v4;refine GH s4 i4 λS5 H5 _ s5 i5 c5 f5=>?_;have R:S.lv=a.lv:=f.lv.symm;refine h S5 H5 x y (by omega) (by omega) (by rw[t0,R];exact C) (by rw[t0,R];exact D) s5 i5 ((E.trans chg4).trans (Ux i4 i5 c5)) ?_ (by rw[t0,c5.lv,v4,R]) (VX i4 c5);exact(f1.trans f4 f.bl f.bp f.tb).trans f5 (w.bl.trans f.bl) (w.bp.trans f.bp) (w.tb.trans f.tb)
end
end Go.Proofs.YtcbkbpjlbmalmaaGreatDoor
namespace Go.Proofs.YtcbkbpjlbmalmaaGreatDoor
open Go Go.X Go.Y Go.RowKit
section
set_option maxRecDepth 100000
abbrev Xn:EK:={err:=(0:Int),event:=false,ev:={Eg:=(0:Int),Kind:=(0:Int),Level:=(0:Int):BA}}
variable {w:World}
theorem XD{P:Program}{f:Fr}{t ty:TypeId}{a:Nat}{v:Value}{p:Addr}{pos:String}{af:Array Edge}{d:Option Tmp}(h:(execOp (ev f) ⟨d,.load t (.tmp a),ty,pos,af,none⟩).run P w=.ok (.value v) w)(c:f a=.pointer (some p)):(loadVar t p).run P w=.ok v w:=by
 simp only[execOp,Instr.loadAt,X.ev,c,Instr.sureAddr,Sem.run_bind,Sem.run_pure,Result.andThen_ok]at h;cases b:(loadVar t p).run P w with
 |ok u e=>rw[b]at h;simp only[Result.andThen_ok,Result.ok.injEq,Next.value.injEq]at h;rw[h.1,h.2]
 |halt x e=>rw[b]at h;simp [Result.andThen]at h
theorem Avf{ρ:Operand->Value}{x:Operand}{g:Fn}{cap:Array Value}{t:TypeId}{P:Program}{ats:Array TypeId}(h:ρ x=.func g #[] cap):(resolve ρ {callee:=.value x,args:=#[],argTypes:=ats} t).run P w=.ok ⟨.fn g cap,#[]⟩ w:=by simp [resolve,h,Deferred.ofValue]
theorem Afk{bs bd:Nat}{us:List Value}{b:Bool}{f:Fr}{row:Array Value}{es ed:TypeId}{I:Cc}{T:Bd}(h4:f 4=.pointer (some ⟨bs,0,none⟩))(h5:f 5=.pointer (some ⟨bd,0,none⟩))(hs:St I w ([(bs,.cells row es (0,0))]++([(bd,.cells #[.bool b] ed (0,0))]++T)))(hr:row.toList=us)(hl:us.length=5):∀a,Is 13 a f->(results Tryz.f227 a).run Y0.P w=.ok (.tuple #[.agg ⟨us⟩,.bool b]) w:=by
 intro a ha;have h231:OZ Y0.P 231 true 5=true:=by kernel_rfl
 have e1:(loadVar 231 ⟨bs,0,none⟩).run Y0.P w=.ok (.agg ⟨us⟩) w:=XD (f:=f) (a:=4) (Iq (ty:=0) (λpos af K hk=>Rz (n:=5) h231 hs (by exact h4) (vs:=us) (by rw[hr,<-hl];simp) hl hk) none "" #[]) h4;have e2:(loadVar 4 ⟨bd,0,none⟩).run Y0.P w=.ok (.bool b) w:=XD (f:=f) (a:=5) (Iq (ty:=0) (λpos af K hk=>Uo (by kernel_rfl) hs.W8 (by exact h5) rfl hk) none "" #[]) h5;have g4:a.getD 4 undef=.pointer (some ⟨bs,0,none⟩):=by rw[ha.2 4,h4]
 have g5:a.getD 5 undef=.pointer (some ⟨bd,0,none⟩):=by rw[ha.2 5,h5]
 have hR:Tryz.f227.results.toList=[.cell 4 231,.cell 5 4]:=rfl;refine Gv (vs:=[.agg ⟨us⟩,.bool b]) ?_;rw[hR];simp [List.mapM_cons,PO,g4,g5,asAddr,e1,e2]
noncomputable def A24(X:PX):Env Y0:={N:=13,NG:=QE,sigs:=sg,pf:=pfT,X:=X,lp:=[],jn:=[],pr:=[(10,Ea)],im:=[]}
theorem Af4{ops:Array Oper}{t:Nat}(h:ops.toList.all (λo=>o.dst != some t)=true):Aj1 ops t:=λi o a=>by have:=List.all_eq_true.1 h o (by rw[be]at a;obtain⟨c,b⟩:=a;rw[<-b];simp);simpa using this
def Azh(m:Option Nat)(op:FT Y0 [.ptr] [])(H:HY):Cf Y0:={fr:=[(0,.ptr 0 m),(1,.fn [.ptr] [] op)],sg:=[],nx:=1,H:=H,op:=none,hs:=[],pt:=[4,5]}
theorem Ad6{bm:Option Nat}{op:FT Y0 [.ptr] []}{H:HY}{Q:EK×Bool×Unit->UU}{X:PX}(h:∀b,H b=none->op (some b,()) (Ab H b (Ob.st (Y:=Y0) Ea (⟨bm⟩:Dw))) (λ_ H'=>Q (Xn,true,()) () H') (λt l H'=>∃st:EK,t=231/\l=⟨.u 15,st⟩/\Q (st,false,()) () H')):qK RZ IE (bm,op,()) H Q X:=by
 intro I w T A AH vs hargs hH hst;have hlen:=Z8 hargs;have hz:∃z,zrB Y0.P 231 z/\z.cells.size=5:=⟨.agg #[.int .i64 0,.bool false,.int .i64 0,.int .i64 0,.int .i64 0],by unfold zrB;kernel_rfl,rfl⟩
 obtain⟨z,hz1,hz2⟩:=hz;have hzb:zrB Y0.P 4 (.bool false):=by unfold zrB;kernel_rfl
 obtain⟨v0,vs0,e0,hr0,v1,vs1,e1,hr1,e2,e3⟩:=hargs;subst e3 e2 e1 e0;obtain⟨x1,s1⟩:=hst.alloc (.cells z.cells 231);obtain⟨x2,s2⟩:=s1.alloc (.cells (Value.bool false).cells 4);refine Q1 (F:=Tryz.f227) (N:=13) (by kernel_rfl) rfl rfl rfl ?_;generalize hf0:Wo [v0,v1]=f0;have f00:f0 0=v0:=by rw[<-hf0];rfl
 have f01:f0 1=v1:=by rw[<-hf0];rfl
 have fin:∀{I':Cc}{w':World}{AH':Bd}{H':HY}{st:EK}{b:Bool}{us:List Value},Ext I w I' w'->St I' w' (AH'++T)->Hu (P8 Y0) I' w' H' AH'->rp Y0.toUS (.u 15) I' w' (.agg ⟨us⟩) st->Q (st,b,()) () H'->
   (Ahs I w (λv I' w'=>∃AH' A' H',St I' w' (AH'++(A'++T))/\Hu (P8 Y0) I' w' H' AH'/\∃b io us A1 A2,A'=A1++A2/\v=KI us/\ReR Y0 I' w' IE.res b us A1/\IoR Y0 I' w' IE.args io [v0,v1] A2/\Q b io H') (λv I' w'=>∃AH' H' t l u,St I' w' (AH'++T)/\Hu (P8 Y0) I' w' H' AH'/\v=.iface t u/\rp Y0.toUS l.t I' w' u l.x/\X t l H')) (.returned (.tuple #[.agg ⟨us⟩,.bool b])) w':=λ{I' w' AH' H' st b us}k1 k2 k3 k4 k5=>
  .inl ⟨_,I',rfl,k1,AH',[],H',k2,k3,(st,b,()),(),[.agg ⟨us⟩,.bool b],[],[],rfl,rfl,⟨_,_,rfl,k4,_,_,rfl,GN.2 rfl,rfl,rfl⟩,rfl,k5⟩
 refine Dz (CJ (Aw (SQ hz1 _ _ _ _) (Aw (SQ hzb _ _ _ _) ?_)));have hsz:(w.alloc (.cells z.cells 231)).heap.size=w.heap.size+1:=by simp
 rw[hsz]at s2 ⊢;generalize w.heap.size=bs at s1 s2 ⊢;generalize hw2:(w.alloc (.cells z.cells 231)).alloc (.cells (Value.bool false).cells 4)=w2 at s2 x2 ⊢;generalize hf1:put 13 (put 13 f0 (some 4) (.pointer (some ⟨bs,0,none⟩))) (some 5) (.pointer (some ⟨bs+1,0,none⟩))=f1;have f10:f1 0=v0:=by rw[<-hf1,AZ (by decide),AZ (by decide),f00]
 have f11:f1 1=v1:=by rw[<-hf1,AZ (by decide),AZ (by decide),f01]
 have f14:f1 4=.pointer (some ⟨bs,0,none⟩):=by rw[<-hf1,AZ (by decide),Dj (by decide)]
 have f15:f1 5=.pointer (some ⟨bs+1,0,none⟩):=by rw[<-hf1,Dj (by decide)]
 refine Dz (ZI (os:=[_]) rfl rfl (Vd rfl rfl ?_));refine⟨⟨.fn (.func 256) #[.pointer (some ⟨bs+1,0,none⟩),.pointer (some ⟨bs,0,none⟩)],#[]⟩,w2,?_,?_⟩
 .have h6:(put 13 f1 (some 6) (.func (.func 256) #[] ⟨[f1 5,f1 4]⟩)) 6=.func (.func 256) #[] ⟨[f1 5,f1 4]⟩:=Dj (by decide);have h6':ev (put 13 f1 (some 6) (.func (.func 256) #[] ⟨[f1 5,f1 4]⟩)) (.tmp 6)=.func (.func 256) #[] ⟨[f1 5,f1 4]⟩:=h6;have hv:ev (put 13 f1 (some 6) (.func (.func 256) ⟨List.map (ev f1) (#[]:Array Operand).toList⟩ ⟨List.map (ev f1) (#[.tmp 5,.tmp 4]:Array Operand).toList⟩)) (.tmp 6)=.func (.func 256) #[] #[.pointer (some ⟨bs+1,0,none⟩),.pointer (some ⟨bs,0,none⟩)]:=h6'.trans (by rw[f15,f14]);exact Avf hv
 generalize hf2:put 13 f1 (some 6) _=f2;have f20:f2 0=v0:=by rw[<-hf2,AZ (by decide),f10]
 have f21:f2 1=v1:=by rw[<-hf2,AZ (by decide),f11]
 have f24:f2 4=.pointer (some ⟨bs,0,none⟩):=by rw[<-hf2,AZ (by decide),f14]
 have f25:f2 5=.pointer (some ⟨bs+1,0,none⟩):=by rw[<-hf2,AZ (by decide),f15]
 have x12:=x1.trans x2;let gi:B4:={I:=I,w:=w,n:=0,μ:=λ_=>undef,φ:=Wo [v0,v1]}
 let g:B4:={I:=I,w:=w2,n:=1,μ:=λ_=>v0,φ:=f2}
 have hr:RG gi ((bs+1,.cells (Value.bool false).cells 4 (0,0))::(bs,.cells z.cells 231 (0,0))::T) (Azh bm op H) f2 g AH []:=by
  refine⟨rfl,x12,?_,?_,rfl,λx hx=>(by cases hx),λt ht=>rfl,?_⟩
  .have:St I w2 ((bs+1,.cells (Value.bool false).cells 4 (0,0))::((bs,.cells z.cells 231 (0,0))::(AH++([]++T)))):=s2;have pp:∀a b:Nat×Obj,(a::b::(AH++([]++T))).Perm (AH++([]++(a::b::T))):=λa b=>ai [a,b] AH T;exact this.perm (pp _ _)
  .exact Hu.mono hH x12
  .intro i a hi;unfold Azh HF at hi;dsimp only at hi;split at hi
   .rename_i e;cases hi;subst e;exact⟨Nat.zero_lt_one,rfl.trans f20.symm,by rw[f20];exact Lb.1 hr0⟩
   .unfold HF at hi;split at hi
    .rename_i e;cases hi;subst e;show FvR _ _ _ _ _ _ _;rw[f21];exact Go.Y.FvR.mono Y0 x12 hr1
    .cases hi
 let X1:PX:=λt l H'=>∃st:EK,t=231/\l=⟨.u 15,st⟩/\Q (st,false,()) () H';let B:Bd:=(bs+1,.cells (Value.bool false).cells 4 (0,0))::(bs,.cells z.cells 231 (0,0))::T;let Rp:List PanicEntry->World->Prop:=λch w'=>∃u st I' AH' H',ch=[{v:=.iface 231 u,recovered:=false}]/\Ext I w I' w'/\rp Y0.toUS (.u 15) I' w' u st/\St I' w' (AH'++B)/\Hu (P8 Y0) I' w' H' AH'/\Q (st,false,()) () H';have hPan:G9 gi B X1 Rp:=by intro v w' I' AH' H' t l u k1 k2 k3 k4 k5 ⟨st,k6,k7,k8⟩;subst k6 k7 k4;exact⟨u,st,I',AH',H',rfl,k1,k5,k2,k3,k8⟩
 have inv:∀w',(invoke (.fn (.func 256) #[.pointer (some ⟨bs+1,0,none⟩),.pointer (some ⟨bs,0,none⟩)]) #[]).run Y0.P w'=.ok (.enter 256 ⟨[.pointer (some ⟨bs+1,0,none⟩),.pointer (some ⟨bs,0,none⟩)]⟩) w':=λw'=>by
  have hc:CO Y0.P 256=true:=by kernel_rfl
  simp [invoke,Mo hc]
 have frm:∀{I':Cc}{w':World}{AH':Bd}{a b:Nat×Obj},St I' w' (AH'++(a::b::T))->St I' w' ([b]++([a]++(AH'++T))):=λ{I' w' AH' a b}h=>
  h.perm (((ai AH' [a,b] T)).trans (ci _ _ _))
 refine Dz (T3 (Rp:=Rp) (λch w' f' hf'⟨u,st,I',AH',H',k1,k2,k3,k4,k5,k6⟩=>?_) (QQ (E:=A24 X1) (g0:=gi) (g:=g) (T:=B) hPan _ hr (k:=λc'=>EZ (N7 [4,5] c'.pt) (cls c' λc=>Q (Xn,true,()) () c.H)) (Eq.mp (by kernel_rfl) h) λc' f' g' AH' A' hle hr' hx'=>?_))
 .subst k1;have f4:f' 4=.pointer (some ⟨bs,0,none⟩):=by rw[hf' 4 (Af4 rfl),f24]
  have f5:f' 5=.pointer (some ⟨bs+1,0,none⟩):=by rw[hf' 5 (Af4 rfl),f25]
  show Lv _ _ _ _ _ [_] _ _;refine⟨by simp,.inr ⟨_,_,256,_,rfl,inv w',CallsD.mono (Ak0 (frm k4) ?_ k3) ?_⟩⟩
  .exact hz2
  .rintro e u' w'' ⟨rfl,rfl,x3,row,hrow,s3⟩;obtain⟨us,rfl,hF⟩:=GM.1 k3;have hus:us.length=5:=by rw[hF.len];rfl
   exact⟨_,Afk f4 f5 s3 hrow hus,fin (k2.trans x3) s3.drop.drop (Hu.mono k5 x3) (EH x3 k3) k6⟩
 obtain⟨hsub,hx'⟩:=AG hx';obtain⟨c1,g1,AH1,A1,hq,hw1,hle1,h1,_,hop1⟩:=Dt hr' hx';rw[<-hw1];have f4:f' 4=.pointer (some ⟨bs,0,none⟩):=(hr'.pt 4 (Pc hsub rfl)).trans (by rw[hle.φ];exact f24);have f5:f' 5=.pointer (some ⟨bs+1,0,none⟩):=(hr'.pt 5 (Pc hsub rfl)).trans (by rw[hle.φ];exact f25);have hb:Asw c1 231 #[] (λa=>a=.dat (.u 15) Xn)=((AV.dat (.u 15) Xn:AV Y0)=.dat (.u 15) Xn):=by kernel_rfl
 obtain⟨v,a,rfl,hv,hy⟩:=Ahk (ty:=231) (t:=231) (ps:=#[]) h1 (hb▸rfl);have hv:rp Y0.toUS (.u 15) g1.I g1.w v Xn:=hv;obtain⟨us,rfl,hF⟩:=GM.1 hv;have hus:us.length=5:=by rw[hF.len];rfl
 have huc:(Value.agg ⟨us⟩).cells=⟨us⟩:=rfl;have hone:∀v∈(Value.agg ⟨us⟩).cells.toList,v.oneCell'=true:=Wh hF Py;have h231:OZ Y0.P 231 true 5=true:=by kernel_rfl
 have h4b:OZ Y0.P 4 false 1=true:=by kernel_rfl
 have s3:=frm (AH':=AH1++A1) (by rw[c0];exact h1.st);obtain⟨w3,row3,r3,x3,s4,hr3⟩:=Go.Y.storeCells (P:=Y0.P) (t:=231) (y:=.agg ⟨us⟩) (o:=0) (n:=5) h231 s3 (by rw[huc];exact hus) hone (by show 0+5<=z.cells.size;omega);have hr3':row3.toList=us:=by
  rw[hr3,huc];have:z.cells.toList.length=5:=by simpa using hz2
  simp [List.drop_eq_nil_of_le,this]
 obtain⟨w4,row4,r4,x4,s5,hr4⟩:=Go.Y.storeCells (P:=Y0.P) (t:=4) (y:=.bool true) (o:=0) (n:=1) h4b s4.W8 rfl (by intro v hv;simp [Value.cells]at hv;subst hv;rfl) (by decide);have hr4':row4=#[.bool true]:=by apply Array.toList_inj.1;rw[hr4];rfl
 subst hr4';refine Dz (CJ (Aw (hy g1.w _ _ _ _) (MH (YB (p:=.pointer (some ⟨bs,0,none⟩)) (v:=.agg ⟨us⟩) ?_ ?_ r3 _ _ _ _) (MH (YB (p:=.pointer (some ⟨bs+1,0,none⟩)) (v:=.bool true) ?_ rfl r4 _ _ _ _) ?_))))
 .show put 13 f' (some 12) (.agg ⟨us⟩) 4=_;rw[AZ (by decide),f4]
 .exact Dj (by decide)
 .show put 13 f' (some 12) (.agg ⟨us⟩) 5=_;rw[AZ (by decide),f5]
 generalize hg:put 13 (put 13 (put 13 f' (some 12) (.agg ⟨us⟩)) none undef) none undef=f2';have f24':f2' 4=.pointer (some ⟨bs,0,none⟩):=by rw[<-hg];show put 13 f' (some 12) (.agg ⟨us⟩) 4=_;rw[AZ (by decide),f4]
 have f25':f2' 5=.pointer (some ⟨bs+1,0,none⟩):=by rw[<-hg];show put 13 f' (some 12) (.agg ⟨us⟩) 5=_;rw[AZ (by decide),f5]
 refine MF ?_;show Lv _ _ _ _ _ [_] _ _;refine⟨by simp,.inr ⟨_,_,256,_,rfl,inv w4,CallsD.mono (Akz s5) ?_⟩⟩;rintro e u' w'' ⟨rfl,rfl,rfl⟩;have hH1:=h1.hr;rw[hop1]at hH1;have s7:St g1.I w'' (AH1++(A1++T)):=by have:=s5.W8.drop.drop;rw[c0]at this;exact this
 exact⟨_,Afk f24' f25' s5.W8 hr3' hus,fin (h1.le.trans (x3.trans x4)) (D8 s7) (Hu.mono hH1 (x3.trans x4)) (EH (x3.trans x4) hv) hq⟩
end
end Go.Proofs.YtcbkbpjlbmalmaaGreatDoor
namespace Go.Proofs.YtcbkbpjlbmalmaaGreatDoor
open Go Go.X Go.Y
section
def Jd(b:Nat)(M:Mn)(H H':HY):Prop:=∀c,H c≠none->c≠b->c≠M.mb->c≠M.sb->c≠M.S.bl->c≠M.S.bp->c∉M.S.tb->H' c=H c
variable {b:Nat} {M:Mn} {H H':HY}
theorem J7.h(f:J7 b M H H'):Jd b M H H':=λc _ h i g a e d=>f c h i g a e d
theorem PH.frh(f:PH M.sb M.S H H'):Jd b M H H':=λc g _ _ h a e d=>f c g h a e d
theorem Jd.refl:Jd b M H H:=λ_ _ _ _ _ _ _ _=>rfl
variable {M':Mn}
theorem Jd.trans{H'':HY}(h:Jd b M H H')(k:Jd b M' H' H'')(e:Dx M M'):Jd b M H H'':=λc f m g l a j d=>by have i:=h c f m g l a j d;rw[k c (by grind) m (by rw[e.mb];exact g) (by rw[e.sb];exact l) (by rw[e.bl];exact a) (by rw[e.bp];exact j) (by rw[e.tb];exact d),i]
theorem Jr.KK(h:Jr H b M)(f:∀c,H c≠none->H' c=H c):Jr H' b M:=
 ⟨by rw[f _ (by rw[h.ob];simp)];exact h.ob,h.st.KK f,by rw[f _ (by rw[h.me];simp)];exact h.me⟩
def Mn.ws_(M:Mn)(S:B9):Mn:={M with S:=S}
theorem Jr.SO{S:B9}(h:Jr H b M)(g:Ca H' M.sb S)(f:PH M.sb M.S H H'):Jr H' b (M.ws_ S):=by
 have d:∀{c m:Nat}{x:Y0.O m},H c=some (.st m x)->m≠A8->m≠CG->m≠CL->m≠BK->H' c=some (.st m x):=λ{c m x}a n l k j=>by
  rw[f c (by grind) (Bg a h.st.st n) (Bg a h.st.lv l) (Bg a h.st.po k) (λo=>?_)]
  .exact a
  .obtain⟨v,i,e⟩:=ab.1 o;exact Bg a (h.st.ta v i) j e.symm
 exact⟨d h.ob (by decide) (by decide) (by decide) (by decide),g,d h.me (by decide) (by decide) (by decide) (by decide)⟩
theorem Jr.Ava(h:Jr H b M)(m:B0):Jr (Ab H M.mb (.st BX m)) b (M.wm m)/\J7 b M H (Ab H M.mb (.st BX m)):=by
 refine⟨⟨?_,?_,Ai _ _ _⟩,λx _ a _ _ _ _=>Ag _ _ a⟩
 .rw[Ag _ _ (Bg h.ob h.me (by decide))];exact h.ob
 .exact h.st.other h.me (by decide) (by decide) (by decide) (by decide)
structure Kp(M M':Mn):Prop where
 bs:Dx M M'
 hs:M'.hs=M.hs
 nx:M'.nx=M.nx
 room:M'.S.po.room=M.S.po.room
 Aq:∀g,M'.Aq g=M.Aq g
 ws:M'.ws.length<=M.ws.length
theorem Kp.refl:Kp M M:=⟨.refl,rfl,rfl,rfl,λ_=>rfl,an _⟩
theorem Kp.trans{M'':Mn}(h:Kp M M')(k:Kp M' M''):Kp M M'':=⟨h.bs.trans k.bs,k.hs.trans h.hs,k.nx.trans h.nx,k.room.trans h.room,λg=>(k.Aq g).trans (h.Aq g),c6 k.ws h.ws⟩
theorem Kp.n(h:Kp M M'):M'.S.n=M.S.n:=by unfold B9.n;rw[h.bs.tb]
theorem MC.kp(a:MI M)(h:MC M M')(b:M'.ws.length<=M.ws.length):MI M'/\Kp M M':=by obtain⟨d,c⟩:=a.ext h.hs h.nx h.si h.se;exact⟨d,h.bs,h.hs,h.nx,h.se.room,c,b⟩
theorem MI.held(h:MI M){g e:Int}(d:Ad M.hs g=some e):e/2=0∨0<EU M.S.po (e/2):=by
 by_cases b:e/2=0
 .omega
 .right;rw[h.rf _ b];have a:∀{m:List (Int×Int)}{g:Int},Ad m g=some e->0<Lh m (e/2):=by
   intro m;induction m with
   |nil=>intro g h;cases h
   |cons p m c=>
    intro g h;have h:(if p.1=g then some p.2 else Ad m g)=some e:=h;have f:=@B.Hd p.2 (e/2);have i:=@Px (e/2) m;grind[Lh,B.GW]
  grind
theorem MI.chg(h:MI M){S:B9}(d:SI S)(c:Ym M.S S):MI (M.ws_ S)/\Kp M (M.ws_ S):=by have b:∀{g e},Ad M.hs g=some e->B.Ok (Ax S.po) e/\B.den (Ax S.po) e=B.den (Ax M.S.po) e:=λ{g e}a=>c.ok e (h.ok g e a).1 (h.held a);refine⟨⟨d,h.nd,λg e a=>⟨(b a).1,(h.ok g e a).2⟩,h.k0,h.k1,h.nx,λi f=>(c.rf i).trans (h.rf i f),h.ln⟩,⟨rfl,rfl,c.bl,c.bp,c.tb⟩,rfl,rfl,c.room,λg=>?_,an _⟩;show (Ad M.hs g).map (B.den (Ax S.po))=(Ad M.hs g).map (B.den (Ax M.S.po));grind[At5]
theorem MV.empty(c:MeI M.me)(d:∀e,Xb M.me e->e.full=false):MV M:=⟨c,λe b a _=>by grind⟩
def Mn.fs(M:Mn):List B.Fn:=M.hs.map λp=>B.den M.T p.2
theorem MI.Ax1(h:MI M)(o:∀i d,M.T i=some d->0<F1 M.S.cn i):B.QL M.S.n M.lv M.T M.fs:=by
 refine h.si.sc.cn.Ax1 h.si.BS B9.Ko o λi d g f=>?_;have k:=(h.si.BS.var g).1;rw[h.rf i (by omega)]at f;have c:∀{m:List (Int×Int)},0<Lh m i->∃p∈m,p.2/2=i:=by
  intro m;induction m with
  |nil=>grind[Lh]
  |cons p m n=>
   intro h;simp only[Lh]at h;by_cases b:p.2/2=i;all_goals simp_all[B.dl]
 obtain⟨p,b,e⟩:=c f;have r:=(h.ok p.1 p.2 (Gz h.nd b)).1;refine⟨_,bb b,decide (p.2%2=1),λa=>?_⟩;have j:2*i=B.fl p.2 p.2:=by grind[B.fl,B.flip]
 rw[j,B.J4 r]
theorem MI.A00(h:MI M):∀f∈M.fs,B.RD M.S.n f:=λf b=>by obtain⟨p,a,rfl⟩:=ak.1 b;exact h.si.BS.rd (h.ok p.1 p.2 (Gz h.nd a)).1
theorem Aii{p:A6}(h:Fh p):∃l:List Int,l.Nodup/\(∀i∈l,∃n,FY p i=some n)/\p.many<=(l.length:Int):=by
 let l:List Int:=((am p.at_.length).map λk:Nat=>(k:Int)).filter λi=>N8 p i;refine⟨l,?_,λi c=>?_,?_⟩
 .refine List.Pairwise.filter _ ?_;rw[c7];exact bj.imp λh e=>h (by omega)
 .obtain⟨n,g,_⟩:=(h.tk (bo.1 c).2).2.2;grind
 .have b:(((am (p.at_.length-1)).map λk:Nat=>((k+1:Nat):Int))).length<=(l++p.free).length:=by
   refine GO ?_ λi c=>?_
   .rw[List.Nodup,c7];exact bj.imp λh e=>h (by omega)
   .obtain⟨k,d,rfl⟩:=ak.1 c;have d:=bv.1 d;have a:k+1<p.taken.length:=by rw[<-h.ln];omega
    cases f:p.taken[k+1] with
    |true=>
     refine ah _ (bo.2 ⟨ak.2 ⟨k+1,bv.2 (by omega),rfl⟩,?_⟩);show N8 p _=true;rw[YW a,f]
    |false=>exact ag _ (h.al (k+1) (by omega) (by rw[a7 a,f]))
  rw[ao,List.length_range,aw]at b;have:=h.cnt;omega
theorem Aqk(h:SI M.S)(b:M.S.n<=8){R:List B.Fn}(g:∀f∈R,B.RD M.S.n f)(c:B.QL M.S.n M.lv M.T R):M.S.po.many<=65536+15*(R.length:Int):=by
 obtain⟨l,a,e,k⟩:=Aii h.sc.po;have:=B.QL.few h.BS B9.Ko b g c l a λi j=>by obtain⟨n,d⟩:=e i j;simp_all[Hf]
 omega
theorem Vp{X:PX}{Q:Int×Unit->UU}(m:Jr H b M)(f:MI M)(s:MeI M.me)(h:∀M' H' k,Jr H' b M'->MI M'->MV M'->Kp M M'->M'.ws=M.ws->(∀i d,M'.T i=some d->0<F1 M'.S.cn i)->Jd b M H H'->Q (k,()) () H'):qK Mw Jw (some b,()) H Q X:=by refine wF Tryz.f229 {} (?_:((some b)=none->Q (0,()) () H)/\(¬(some b)=none->∃(a:Nat),(some b)=some a/\∃(x:Bc),H a=some (Ob.st CP x)/\x=x/\qK E1 D9 (x.RA,()) H (λ(b1 io:UT)(G:HY)=>∃(x:Bc),G a=some (Ob.st CP x)/\x=x/\qK Dk C8 (x.store,()) G (λ(a:Int×UT)_ G=>Q (a.1,()) () G) X) X));refine⟨λh=>qG h (by simp),λ_=>⟨b,rfl,M.ob,m.ob,rfl,LY m.me s λe l q=>?_⟩⟩;obtain⟨g,t⟩:=m.Ava e;refine⟨_,g.ob,rfl,GH g.st f.si λr H' k p j n o=>?_⟩;obtain⟨c,a⟩:=f.chg j (Ux f.si j n);refine h ((M.wm e).ws_ r) H' k (g.SO p o) ⟨j,c.nd,c.ok,c.k0,c.k1,c.nx,c.rf,c.ln⟩ (MV.empty l q) ⟨⟨rfl,rfl,a.bs.bl,a.bs.bp,a.bs.tb⟩,a.hs,a.nx,a.room,a.Aq,a.ws⟩ rfl (VX f.si n) ?_;exact t.h.trans (M':=M.wm e) (PH.frh (M:=M.wm e) o) ⟨rfl,rfl,rfl,rfl,rfl⟩
theorem Aba{level:Int}{X:PX}{Q:Int×Unit->UU}(z:Jr H b M)(l:MI M)(D:MeI M.me)(O:M.nx<576460752303423488)(J:¬(0<=level/\level<M.S.n-1)->∀M' H',Jr H' b M'->MI M'->MV M'->Kp M M'->M'.ws=M.ws->Jd b M H H'->Q (2,()) () H')(K:∀M' H',(∃i d,M.T i=some d)->Jr H' b M'->MI M'->MV M'->Kp M M'->M'.ws=M.ws->Jd b M H H'->Q (7,()) () H')(h:∀M' H'(x y:Int),0<=level->level<M.S.n-1->M.S.lv.vars[level.toNat]?=some x->M.S.lv.vars[level.toNat+1]?=some y->Jr H' b M'->MI M'->MV M'->Kp M M'->M'.ws=M.ws->Jd b M H H'->M'.S.lv=swL M.S.lv level.toNat x y->(∀i d,M'.T i=some d->0<F1 M'.S.cn i)->Q (0,()) () H'):qK JN HA (some b,level,()) H Q X:=by
 refine wF Tryz.f88 {} (?_:((some b)=none->Q (5,()) () H)/\(¬(some b)=none->∃(a:Nat),(some b)=some a/\∃(x:Bc),H a=some (Ob.st CP x)/\x=x/\qK E1 D9 (x.RA,()) H (λ(b1 io:UT)(G:HY)=>∃(x:Bc),G a=some (Ob.st CP x)/\x=x/\qK Ec Dm (x.store,level,()) G (λ(a:Int×UT)_ G=>Q (a.1,()) () G) X) X));refine⟨λh=>qG h (by simp),λ_=>⟨b,rfl,M.ob,z.ob,rfl,LY z.me D λf A L=>?_⟩⟩;obtain⟨u,F⟩:=z.Ava f;have v:∀{a H'},Ca H' M.sb a->SI a->Ym M.S a->PH M.sb M.S (Ab H M.mb (.st BX f)) H'->Jr H' b ((M.wm f).ws_ a)/\MI ((M.wm f).ws_ a)/\MV ((M.wm f).ws_ a)/\Kp M ((M.wm f).ws_ a)/\Jd b M H H':=λ{a H'}r m p k=>by obtain⟨j,c⟩:=l.chg m p;exact⟨u.SO r k,⟨m,j.nd,j.ok,j.k0,j.k1,j.nx,j.rf,j.ln⟩,MV.empty A L,⟨⟨rfl,rfl,c.bs.bl,c.bs.bp,c.bs.tb⟩,c.hs,c.nx,c.room,c.Aq,c.ws⟩,F.h.trans (M':=M.wm f) (PH.frh (M:=M.wm f) k) ⟨rfl,rfl,rfl,rfl,rfl⟩⟩
 refine⟨_,u.ob,rfl,PM (S:=M.S) u.st l.si (λi=>?_) (λC=>?_) (λa H' E r m p k _=>?_) λa H' x y N I B G r m p k w g=>?_⟩
 .by_cases e:i=0
  .rw[e,Afy l.si.sc.po];omega
  .rw[l.rf i e];have:=@Px i M.hs;have:=l.ln;omega
 .obtain⟨t,q,s,n,o⟩:=v (a:=M.S) u.st l.si Ym.refl PH.refl;exact J C _ _ t q s n rfl o
 .obtain⟨t,q,s,n,o⟩:=v r m p k;exact K _ _ E t q s n rfl o
 .obtain⟨t,q,s,n,o⟩:=v r m p k;exact h _ _ x y N I B G t q s n rfl o w g
end
section
def Ao9:Prop:=∀(o:List Int)(H:HY)(X:PX)(Q:List Int×Int×Unit->UU),o.length<=64->(∀l e,l.length<=1000000->Q (l,e,()) () H)->qK Oy L6 (o,()) H (λb _ H'=>qK KM IB (o,b.1,()) H' Q X) X
def EvK(ev:BA):Prop:=ev.Kind=1∨ev.Kind=2∨Ao9
structure MG(H:HY)(b:Nat)(M:Mn):Prop where
 h:Jr H b M
 i:MI M
 v:MV M
 e:∀ev∈M.ws,EvK ev
 n8:M.S.n<=8
 rm:M.S.po.room=1048576
variable {b:Nat} {M:Mn} {H:HY}
theorem Asr{m':B0}{S':B9}{H0 H':HY}(m:MI M)(l:Jr H b (M.wm m'))(d:MeI m')(k:∀e,Xb m' e->e.full=false)(i:Jd b M H0 H)(j:Ca H' M.sb S')(f:SI S')(h:Ym M.S S')(g:PH M.sb M.S H H'):Jr H' b ((M.wm m').ws_ S')/\MI ((M.wm m').ws_ S')/\MV ((M.wm m').ws_ S')/\Kp M ((M.wm m').ws_ S')/\Jd b M H0 H':=by obtain⟨c,a⟩:=m.chg f h;exact⟨l.SO j g,⟨f,c.nd,c.ok,c.k0,c.k1,c.nx,c.rf,c.ln⟩,MV.empty d k,⟨⟨rfl,rfl,a.bs.bl,a.bs.bp,a.bs.tb⟩,a.hs,a.nx,a.room,a.Aq,a.ws⟩,i.trans (M':=M.wm m') (PH.frh (M:=M.wm m') g) ⟨rfl,rfl,rfl,rfl,rfl⟩⟩
theorem Ave(a:MI M)(b:M.nx<576460752303423488)(i:Int):EU M.S.po i<=576460752303423488:=by
 by_cases e:i=0
 .rw[e,Afy a.si.sc.po];omega
 .rw[a.rf i e];have:=@Px i M.hs;have:=a.ln;omega
variable {X:PX}
theorem NS{S:B9}{Q:List Int×Unit->UU}(a:Ca H b S)(c:S.lv.vars.length<=64)(h:Q (S.lv.vars,()) () H):qK EJ DE (some b,()) H Q X:=by refine wF Tryz.f161 {} (?_:((some b)=none->Q ([],()) () H)/\(¬(some b)=none->∃(a:Nat),(some b)=some a/\∃(x:Ah),H a=some (Ob.st A8 x)/\∃(a:Nat),x.levels=some a/\x=x/\∃(x:AN),H a=some (Ob.st CG x)/\(0+x.vars.length)*8<=2^47/\Q ([]++x.vars,()) () (Ab H a (Ob.st CG x))));refine⟨λh=>qG h (by simp),λ_=>⟨b,rfl,S.ob,a.st,S.bl,rfl,rfl,S.lv,a.lv,by omega,?_⟩⟩;rw[KQ a.lv];exact h
theorem WH{ev:BA}{Q:Unit->UU}(I:Jr H b M)(v:MI M)(R:MeI M.me)(T:M.nx<576460752303423488)(hE:EvK ev)(h:∀M' H',Jr H' b M'->MI M'->MV M'->Kp M M'->M'.ws=M.ws->Jd b M H H'->Q () () H'):qK Nw Kn (some b,ev,()) H Q X:=by
 refine wF Tryz.f228 {lp:=[(6,⟨[(28,.one (.own I6)),(30,.nat)],[0,28,29],true⟩)],im:=[3]} (?_:Nx (some b) ev H Q X);unfold Nx;refine⟨b,rfl,M.ob,I.ob,rfl,LY I.me R λB K S=>?_⟩;obtain⟨q,Y⟩:=I.Ava B;have P:M.S.lv.vars.length<=64:=by have:=v.si.BS.od.n64;have:=v.si.vl;grind[B9.n]
 have u:∀{f:B9}{y:Int}{x:HY}{Q:Int×Unit->UU},Ca x M.sb f->SI f->Ym M.S f->PH M.sb M.S (Ab H M.mb (.st BX B)) x->(∀e c d,Ca d M.sb c->SI c->Ym M.S c->PH M.sb M.S (Ab H M.mb (.st BX B)) d->Q (e,()) () d)->qK Ec Dm (some M.sb,y,()) x Q X:=λ{f y x Q}r t a p F=>by refine PM r t (λi=>by rw[a.rf];exact Ave v T i) (λ_=>F 2 f x r t a p) (λE H' _ j o g m _=>F 7 E H' j o (a.trans g) (p.trans m a.bl a.bp a.tb)) λE H' _ _ _ _ _ _ j o g m _ _=>F 0 E H' j o (a.trans g) (p.trans m a.bl a.bp a.tb)
 have w:∀{c d},Ca d M.sb c->SI c->Ym M.S c->PH M.sb M.S (Ab H M.mb (.st BX B)) d->Q () () d:=λ{c d}j o g m=>by obtain⟨Z,a2,V,U,W⟩:=Asr v q K S Y.h j o g m;exact h _ d Z a2 V U rfl W
 refine⟨λ_=>⟨_,q.ob,rfl,GH q.st v.si λE H' k r t a p=>w r t (Ux v.si t a) p⟩,λG=>⟨λ_=>⟨_,q.ob,rfl,u q.st v.si Ym.refl PH.refl λe c d j o g m=>w j o g m⟩,λO=>⟨_,q.ob,rfl,NS q.st P ?_⟩⟩⟩;refine(hE.resolve_left G).resolve_left O M.S.lv.vars _ X _ P λl e hl _=>?_;refine⟨λn z H'=>z.1=l/\n=l.length-z.2.1/\z.2.1<=l.length/\∃f,Ca H' M.sb f/\SI f/\Ym M.S f/\PH M.sb M.S (Ab H M.mb (.st BX B)) H',⟨_,rfl,rfl,aa _,M.S,q.st,v.si,Ym.refl,PH.refl⟩,?_⟩;rintro n ⟨A,k,_⟩ x ⟨N,C,D,f,r,t,a,p⟩;have N:A=l:=N;subst N;have hnk:n=A.length-k:=C;have hk:k<=A.length:=D;refine⟨λL _=>?_,λ_=>w r t a p⟩;have s:k<A.length:=L;have J:=(q.SO r p).ob;refine⟨s,s,_,J,rfl,u r t a p λe c d j o g m=>⟨by grind,A.length-(k+1),by omega,rfl,rfl,by grind,c,j,o,g,m⟩⟩
def PI(M M':Mn)(Fs:List B.Fn):Prop:=∀R:List B.Fn,(∀F∈Fs,F∈R)->B.QL M.S.n M.lv M.T R->B.QL M'.S.n M'.lv M'.T R
variable {M':Mn} {Fs:List B.Fn}
theorem L1.l{F:B.Fn}(h:L1 M M' F)(hF:F∈Fs):PI M M' Fs:=λR b a=>h R (b F hF) a
theorem PI.refl:PI M M Fs:=λ_ _ h=>h
theorem PI.trans{M'':Mn}(h:PI M M' Fs)(k:PI M' M'' Fs):PI M M'' Fs:=λR a b=>k R a (h R a b)
def OpS(b:Nat)(M:Mn)(Fs:List B.Fn)(J:HP)(P:Mn->HP)(op:FT Y0 [.ptr] []):Prop:=∀M' H' c(X':PX)(Q':Unit->HP),MD H' c b M'->MI M'->MV M'->Kp M M'->J H'->(∀M'' H'' l,MD H'' c b M''->MC M' M''->PI M' M'' Fs->J H''->WZ M' M'' l->X' 231 l H'')->(∀M'' H'',MD H'' c b M''->MC M' M''->PI M' M'' Fs->J H''->M''.ws=M'.ws->P M'' H''->Q' () H'')->op (some c,()) H' Q' X'
theorem Jd.of_same{H':HY}(f:Jd b M' H H')(e:Dx M M'):Jd b M H H':=λc g j h k a i d=>f c g j (by rw[e.mb];exact h) (by rw[e.sb];exact k) (by rw[e.bl];exact a) (by rw[e.bp];exact i) (by rw[e.tb];exact d)
theorem Jd.new{c:Nat}{o:Ob Y0}(h:H c=none):Jd b M H (Ab H c o):=λd a _ _ _ _ _ _=>Ag _ _ λe=>a (by grind)
theorem Vo{J:HP}{P:Mn->HP}{op:FT Y0 [.ptr] []}{Q:Int×Unit->UU}(hM:MG H b M)(hn:M.nx<576460752303423488)(hl:M.hs.length<=60000)(hF:Fs.length<=1000)(hR:∀F∈Fs,B.RD M.S.n F)(W:∀H H',J H->Jd b M H H'->J H')(h0:J H)(O:OpS b M Fs J P op)(hq:∀M' H',MG H' b M'->Kp M M'->M'.ws.length<=M.ws.length->J H'->P M' H'->Q (0,()) () H'):qK Nf KF (some b,op,()) H Q X:=by
 refine wF Tryz.f187 {lp:=[(2,⟨[(5,.one (.dat .bool))],[0,1],true⟩)]} (?_:Si (some b) op H Q X);unfold Si;refine⟨λn z H'=>∃M',n=2*M'.ws.length+(if z.1=true then 0 else 1)/\MG H' b M'/\Kp M M'/\J H'/\(z.1=true->B.QL M'.S.n M'.lv M'.T M'.fs),⟨_,M,rfl,hM,Kp.refl,h0,λh=>by cases h⟩,?_⟩;rintro n ⟨j,_⟩ Z ⟨i,s,t,p,j1,w⟩;have s:n=2*i.ws.length+(if j=true then 0 else 1):=s;have w:j=true->B.QL i.S.n i.lv i.T i.fs:=w;refine Ad6 λc hc=>?_;have f1:Jd b i Z (Ab Z c (Ob.st (Y:=Y0) Ea (⟨some b⟩:Dw))):=Jd.new hc;have cx:MD (Ab Z c (Ob.st (Y:=Y0) Ea (⟨some b⟩:Dw))) c b i:=⟨Ai _ _ _,t.h.KK λd hd=>Ag _ _ λe=>hd (by grind)⟩
 have N:∀{r A},Jr A b r->MC i r->(r.ws=i.ws∨∃q,i.ws=q::r.ws)->MG A b r/\Kp i r:=λ{r A}h2 u m=>by obtain⟨a1,V⟩:=u.kp t.i (by rcases m with e|⟨q,e⟩<;>simp [e]);refine⟨⟨h2,a1,u.mv,λq y=>t.e q ?_,by rw[V.n];exact t.n8,by rw[V.room];exact t.rm⟩,V⟩;grind
 refine O i _ c _ _ cx t.i t.v p (W _ _ j1 (f1.of_same p.bs)) (λr A l I u C K hp=>?_) λr A I u C K m hP=>⟨λ_=>?_,λh=>qG rfl h⟩
 .rcases hp with ⟨rfl,m,hm⟩|⟨q,rfl,m⟩
  .refine⟨_,rfl,rfl,λh=>(by cases h),λ_=>⟨λh=>(by cases h),λ_=>⟨λ_=>⟨λv=>?_,λv=>?_⟩,λh=>qG rfl h⟩⟩⟩
   .obtain⟨a,o⟩:=N I.NB u (.inl m);refine Vp a.h a.i a.v.me λE H3 k S L v3 g D T f3=>⟨2*E.ws.length+0,?_,E,rfl,⟨S,L,v3,λq y=>a.e q (by grind),by rw[g.n];exact a.n8,by rw[g.room];exact a.rm⟩,(p.trans o).trans g,W _ _ K (f3.of_same (p.trans o).bs),λ_=>L.Ax1 T⟩
    grind
   .exfalso;have v:j=true:=bg.1 v;obtain⟨a,o⟩:=N I.NB u (.inl m);have G:=C (Fs++i.fs) (λF hF=>ah _ hF) ((w v).mono λf x=>ag _ x);have:=Aqk a.i.si a.n8 (R:=Fs++i.fs) (λf x=>by
     rw[o.n];rcases aj.1 x with x|x
     .rw[p.n];grind
     .exact t.i.A00 f x) G
    rw[hm,a.rm,aw]at this;have U:i.fs.length=M.hs.length:=by unfold Mn.fs;rw[ao,p.hs]
    omega
  .obtain⟨a,o⟩:=N I.NB u (.inr ⟨q,m⟩);refine⟨_,rfl,rfl,λh=>(by cases h),λ_=>⟨λ_=>?_,λh=>qG rfl h⟩⟩;refine WH a.h a.i a.v.me (by rw[(p.trans o).nx];exact hn) (t.e q (by grind)) λE H3 S L v3 g D f3=>⟨2*E.ws.length+1,?_,E,rfl,⟨S,L,v3,λq y=>a.e q (by grind),by rw[g.n];exact a.n8,by rw[g.room];exact a.rm⟩,(p.trans o).trans g,W _ _ K (f3.of_same (p.trans o).bs),λh=>by cases h⟩
   grind
 .obtain⟨a,o⟩:=N I.NB u (.inl m);exact hq r A a (p.trans o) (p.trans o).ws K hP
end
section
set_option maxRecDepth 100000
set_option maxHeartbeats 2000000
theorem mpF{p:Prop}(h:p)(F:Prop)(e:p=F):F:=Eq.mp e h
def Ry(x:Option Nat)(p1:Int)(p2:Option Nat×Int×Int×UT->HY->(Int×UT->HP)->PX->Prop)(p3:Int)(H:HY)(Q:Int×UT->UU)(X:PX):=qK CD Cs (x,p1,()) H (λ(b:Int×UT)_ G=>qK CD Cs (x,p3,()) G (λ(b1:Int×UT)_ G=>p2 (x,b.1,b1.1,()) G (λ(b:Int×UT)(G:HY)=>Q (b.1,()) () G) X) X) X
theorem YY x p1 p2 p3 H Q X(h_:Ry x p1 p2 p3 H Q X):qK RX MP (x,p1,p2,p3,()) H Q X:=wF Tryz.f191 {} h_
def Ain(x:Option Nat)(a b:Int)(H:HY)(Q:Int×UT->UU)(X:PX):=qK BO BF (x,a,B.flip b,b,()) H (λ(b:Int×UT)_ G=>Q (b.1,()) () G) X
theorem Aim x a b H Q X(h_:Ain x a b H Q X):qK Tk Pg (x,a,b,()) H Q X:=wF Tryz.f172 {} h_
def UY(x:Option Nat)(p1:Int)(p2:Option Nat×Int×Int×UT->HY->(Int×UT->HP)->PX->Prop)(p3 p4:Int)(p5:Option Nat)(H:HY)(Q:UT->UU)(X:PX):=qK CD Cs (x,p1,()) H (λ(b:Int×UT)_ G=>qK CD Cs (x,p3,()) G (λ(b1:Int×UT)_ G=>p2 (x,b.1,b1.1,()) G (λ(b:Int×UT)(G:HY)=>∃(b2:Nat),p5=some b2/\∃(x1:Bool),G b2=some (Ob.st Ho x1)/\Q () () (Ab G b2 (Ob.st Ho (decide (b.1=p4))))) X) X) X
theorem Ad0 x p1 p2 p3 p4 p5 H Q X(h_:UY x p1 p2 p3 p4 p5 H Q X):qK V9 Qu (x,p1,p2,p3,p4,p5,()) H Q X:=wF Tryz.f150 {} h_
def Rx(x:Option Nat)(p1:Int)(p2:List Int)(p3:Option Nat×Int×Int×UT->HY->(Int×UT->HP)->PX->Prop)(H:HY)(Q:Int×UT->UU)(X:PX):=p2.length<=2^63-1->∃(V:Nat->Int×Nat×UT->HP),(∃(n:Nat),V n (p1,0,()) H)/\∀n x1 H,V n x1 H->(x1.2.1<p2.length->x1.2.1<=2^63-1->∃(h:x1.2.1<p2.length),qK CD Cs (x,p2[x1.2.1],()) H (λ(b:Int×UT)_ G=>p3 (x,x1.1,b.1,()) G (λ(b:Int×UT)(G:HY)=>x1.2.1+1<=2^63-1/\∃m,m<n/\V m (b.1,x1.2.1+1,()) G) X) X)/\(¬x1.2.1<p2.length->Q (x1.1,()) () H)
theorem YX x p1 p2 p3 H Q X(h_:Rx x p1 p2 p3 H Q X):qK RW MO (x,p1,p2,p3,()) H Q X:=wF Tryz.f146 {lp:=[(3,⟨[(6,.one (.dat I6)),(12,.nat)],[0,3,10,11],true⟩)]} h_
def Air(x:Option Nat)(a b:Int)(H:HY)(Q:Int×UT->UU)(X:PX):=qK BO BF (x,a,b,B.flip b,()) H (λ(b:Int×UT)_ G=>Q (b.1,()) () G) X
theorem Aiq x a b H Q X(h_:Air x a b H Q X):qK Tl Ph (x,a,b,()) H Q X:=wF Tryz.f130 {} h_
def UZ(m:Option Nat)(f:Option Nat×Int×Int×UT->HY->(Int×UT->HP)->PX->Prop)(a b:Int)(H:HY)(Q:Int×Int×UT->UU)(X:PX):=qK JZ Ip (m,λ(a1:Option Nat×UT)(H:HY)(Q:Int×UT->HP)(X:Nat->Lf Y0.D->HP)=>qK RX MP (a1.1,a,f,b,()) H (λ(b:Int×UT)(_:UT)(G:HY)=>Q (b.1,()) G) X,()) H (λ(b:Int×Int×UT)_ G=>Q (b.1,b.2.1,()) () G) X
def Aiv(m:Option Nat)(l:List Int)(H:HY)(Q:Int×Int×UT->UU)(X:PX):=qK Nc KX (m,1,λ(a:Option Nat×Int×Int×UT)(H:HY)(Q:Int×UT->HP)(X:Nat->Lf Y0.D->HP)=>qK Tk Pg (a.1,a.2.1,a.2.2.1,()) H (λ(b:Int×UT)(_:UT)(G:HY)=>Q (b.1,()) G) X,l,()) H (λ(b:Int×Int×UT)_ G=>Q (b.1,b.2.1,()) () G) X
theorem Aiu m l H Q X(h_:Aiv m l H Q X):qK Tm Pj (m,l,()) H Q X:=wF Tryz.f108 {} h_
def Aix(m:Option Nat)(f g:Int)(H:HY)(Q:Int×Int×UT->UU)(X:PX):=qK QG MQ (m,λ(a:Option Nat×Int×Int×UT)(H:HY)(Q:Int×UT->HP)(X:Nat->Lf Y0.D->HP)=>qK Pz Mj (a.1,a.2.1,a.2.2.1,()) H (λ(b:Int×UT)(_:UT)(G:HY)=>Q (b.1,()) G) X,f,g,()) H (λ(b:Int×Int×UT)_ G=>Q (b.1,b.2.1,()) () G) X
theorem Aiw m f g H Q X(h_:Aix m f g H Q X):qK To Pk (m,f,g,()) H Q X:=wF Tryz.f99 {} h_
def Aip(x:Option Nat)(a b:Int)(H:HY)(Q:Int×UT->UU)(X:PX):=qK BO BF (x,a,b,0,()) H (λ(b:Int×UT)_ G=>Q (b.1,()) () G) X
theorem Aio x a b H Q X(h_:Aip x a b H Q X):qK Pz Mj (x,a,b,()) H Q X:=wF Tryz.f78 {} h_
def Amb(x:Option Nat)(a b:Int)(H:HY)(Q:Int×UT->UU)(X:PX):=qK BO BF (x,a,0,b,()) H (λ(b:Int×UT)_ G=>Q (b.1,()) () G) X
theorem Ama x a b H Q X(h_:Amb x a b H Q X):qK V8 Rl (x,a,b,()) H Q X:=wF Tryz.f77 {} h_
def Aax(m:Option Nat)(f:Option Nat×Int×Int×UT->HY->(Int×UT->HP)->PX->Prop)(a b want:Int)(H:HY)(Q:Bool×Int×UT->UU)(X:PX):=∀(b1:Nat),H b1=none->qK Qb LQ (m,λ(a2:Option Nat×UT)(H:HY)(Q:UT->HP)(X:Nat->Lf Y0.D->HP)=>qK V9 Qu (a2.1,a,f,b,want,some b1,()) H (λ(_ _:UT)(G:HY)=>Q () G) X,()) (Ab H b1 (Ob.st Ho false)) (λ(b:Int×UT)_ G=>∃(x:Bool),G b1=some (Ob.st Ho x)/\(x->x=x/\Q (decide (b.1=0),b.1,()) () G)/\(¬x->x=x/\Q (false,b.1,()) () G)) X
def Ait(x:Option Nat)(a b:Int)(H:HY)(Q:Int×UT->UU)(X:PX):=qK BO BF (x,a,b,1,()) H (λ(b:Int×UT)_ G=>Q (b.1,()) () G) X
theorem Ais x a b H Q X(h_:Ait x a b H Q X):qK P0 Ml (x,a,b,()) H Q X:=wF Tryz.f74 {} h_
def Aiz(m:Option Nat)(f g:Int)(H:HY)(Q:Int×Int×UT->UU)(X:PX):=qK QG MQ (m,λ(a:Option Nat×Int×Int×UT)(H:HY)(Q:Int×UT->HP)(X:Nat->Lf Y0.D->HP)=>qK Tl Ph (a.1,a.2.1,a.2.2.1,()) H (λ(b:Int×UT)(_:UT)(G:HY)=>Q (b.1,()) G) X,f,g,()) H (λ(b:Int×Int×UT)_ G=>Q (b.1,b.2.1,()) () G) X
theorem Aiy m f g H Q X(h_:Aiz m f g H Q X):qK P1 Mm (m,f,g,()) H Q X:=wF Tryz.f58 {} h_
def Amd(m:Option Nat)(l:List Int)(H:HY)(Q:Int×Int×UT->UU)(X:PX):=qK Nc KX (m,1,λ(a:Option Nat×Int×Int×UT)(H:HY)(Q:Int×UT->HP)(X:Nat->Lf Y0.D->HP)=>qK V8 Rl (a.1,a.2.1,a.2.2.1,()) H (λ(b:Int×UT)(_:UT)(G:HY)=>Q (b.1,()) G) X,l,()) H (λ(b:Int×Int×UT)_ G=>Q (b.1,b.2.1,()) () G) X
theorem Amc m l H Q X(h_:Amd m l H Q X):qK IS Hx (m,l,()) H Q X:=wF Tryz.f28 {} h_
def Ai1(m:Option Nat)(l:List Int)(H:HY)(Q:Int×Int×UT->UU)(X:PX):=qK Nc KX (m,0,λ(a:Option Nat×Int×Int×UT)(H:HY)(Q:Int×UT->HP)(X:Nat->Lf Y0.D->HP)=>qK P0 Ml (a.1,a.2.1,a.2.2.1,()) H (λ(b:Int×UT)(_:UT)(G:HY)=>Q (b.1,()) G) X,l,()) H (λ(b:Int×Int×UT)_ G=>Q (b.1,b.2.1,()) () G) X
theorem Ai0 m l H Q X(h_:Ai1 m l H Q X):qK Cy Ci (m,l,()) H Q X:=wF Tryz.f25 {} h_
end
section
variable {M:Mn}
theorem MHs.mv{M':Mn}(h:MHs M M')(v:MV M):MV M':=by
 refine⟨by rw[h.me];exact v.me,λe a c b=>?_⟩;rw[h.me]at a;have k:=v.en e a c b;have n:M'.S.n=M.S.n:=by unfold B9.n;rw[h.bs.tb]
 have t:M'.T=M.T:=h.Ax;have l:M'.lv=M.lv:=by show Df _=Df _;rw[h.lv]
 exact⟨by rw[t];exact k.of,by rw[t];exact k.og,by rw[t];exact k.oh,by rw[t];exact k.or,by rw[t];exact k.den,by rw[n,l,t];exact k.lev⟩
variable {H H':HY} {b:Nat}
theorem MHs.mg{M':Mn}(h:MHs M M')(g:MG H b M)(c:Jr H' b M')(a:MI M'):MG H' b M':=
 ⟨c,a,h.mv g.v,by rw[h.ws];exact g.e,by rw[show M'.S.n=M.S.n by unfold B9.n;rw[h.bs.tb]];exact g.n8,by rw[h.room];exact g.rm⟩
theorem MG.KK(h:MG H b M)(f:∀c,H c≠none->H' c=H c):MG H' b M:=⟨h.h.KK f,h.i,h.v,h.e,h.n8,h.rm⟩
structure Uz(M M':Mn)(F:B.Fn):Prop where
 bs:Dx M M'
 nx:M'.nx=M.nx+1
 ln:M'.hs.length=M.hs.length+1
 Aq:∀g,M'.Aq g=if g=M.nx then some F else M.Aq g
structure Fb(b:Nat)(M:Mn)(c:Nat):Prop where
 b:c≠b
 mb:c≠M.mb
 sb:c≠M.sb
 bl:c≠M.S.bl
 bp:c≠M.S.bp
 tb:c∉M.S.tb
variable {c:Nat}
theorem Jr.notM(h:Jr H b M)(f:H c=none):Fb b M c:=by
 have a:∀{d:Nat}{o:Ob Y0},H d=some o->c≠d:=λg e=>by grind
 refine⟨a h.ob,a h.me,a h.st.st,a h.st.lv,a h.st.po,λj=>?_⟩;obtain⟨v,i,e⟩:=ab.1 j;exact a (h.st.ta v i) e.symm
theorem Fb.same{b c:Nat}{M M':Mn}(h:Fb b M c)(e:Dx M M'):Fb b M' c:=⟨h.b,by rw[e.mb];exact h.mb,by rw[e.sb];exact h.sb,by rw[e.bl];exact h.bl,by rw[e.bp];exact h.bp,by rw[e.tb];exact h.tb⟩
theorem J7.at(f:J7 b M H H')(h:Fb b M c):H' c=H c:=f c h.b h.mb h.sb h.bl h.bp h.tb
theorem Jd.at(f:Jd b M H H')(a:H c≠none)(h:Fb b M c):H' c=H c:=f c a h.b h.mb h.sb h.bl h.bp h.tb
theorem J7.same{b:Nat}{M M':Mn}{H H':HY}(f:J7 b M' H H')(e:Dx M M'):J7 b M H H':=λc i g j a h d=>f c i (by rw[e.mb];exact g) (by rw[e.sb];exact j) (by rw[e.bl];exact a) (by rw[e.bp];exact h) (by rw[e.tb];exact d)
theorem Jr.other{m:Nat}{x:Y0.O m}{y:Ob Y0}(h:Jr H b M)(a:Fb b M c)(_:H c=some (.st m x)):Jr (Ab H c y) b M:=by
 refine⟨?_,⟨?_,?_,?_,h.st.nd,λv d=>?_⟩,?_⟩
 .rw[Ag _ _ a.b.symm];exact h.ob
 .rw[Ag _ _ a.sb.symm];exact h.st.st
 .rw[Ag _ _ a.bl.symm];exact h.st.lv
 .rw[Ag _ _ a.bp.symm];exact h.st.po
 .rw[Ag _ _ λe=>a.tb (by grind)];exact h.st.ta v d
 .rw[Ag _ _ a.mb.symm];exact h.me
def OpE(b:Nat)(M:Mn)(H:HY)(Fs:List B.Fn)(F:B.Fn)(op:FT Y0 [.ptr] [.int .i64]):Prop:=∀M' H' c(X':PX)(Q':Int×Unit->HP),MD H' c b M'->MI M'->MV M'->Kp M M'->Jd b M H H'->(∀M'' H'' l,MD H'' c b M''->MC M' M''->PI M' M'' Fs->J7 b M' H' H''->WZ M' M'' l->X' 231 l H'')->(∀e M'' H'',MD H'' c b M''->MC M' M''->PI M' M'' Fs->J7 b M' H' H''->M''.ws=M'.ws->B.Ok M''.T e->B.den M''.T e=F->Q' (e,()) H'')->op (some c,()) H' Q' X'
variable {F:B.Fn} {X:PX}
theorem Pu{Fs:List B.Fn}{op:FT Y0 [.ptr] [.int .i64]}{Q:Int×Int×Unit->UU}(S:MG H b M)(hn:M.nx<576460752303423487)(hl:M.hs.length<=60000)(hF:Fs.length<=1000)(Z:∀F∈Fs,B.RD M.S.n F)(E:OpE b M H Fs F op)(hq:∀M' H',MG H' b M'->Uz M M' F->Jd b M H H'->Q (M.nx,0,()) () H'):qK JZ Ip (some b,op,()) H Q X:=by
 refine wF Tryz.f125 {pr:=[(6,8)],im:=[3]} (?_:((some b)=none->Q (0,5,()) () H)/\(¬(some b)=none->∀(c:Nat),H c=none->qK Nf KF ((some b),λ(a:Option Nat×UT)(H:HY)(Q:UT->HP)(X:Nat->Lf Y0.D->HP)=>qK Qe LS (a.1,op,some c,()) H (λ(c x:UT)(G:HY)=>Q () G) X,()) (Ab H c (Ob.st Ba (0:Int))) (λ(b1:Int×UT)_ G=>(¬b1.1=0->Q (0,b1.1,()) () G)/\(¬¬b1.1=0->∃(b2:Nat),(some b)=some b2/\∃(x:Bc),G b2=some (Ob.st CP x)/\x=x/\∃(x1:Int),G c=some (Ob.st Ba x1)/\x1=x1/\qK DT Dn (x.store,x1,()) G (λ(b3:Bool×UT)_ G=>(¬b3.1->Q (0,8,()) () G)/\(¬¬b3.1->∃(x:Int),G c=some (Ob.st Ba x)/\x=x/\qK JM Hz ((some b),x,()) G (λ(c:Int×UT)_ G=>Q (c.1,0,()) () G) X)) X)) X));refine⟨λh=>qG h (by simp),λ_ v m=>?_⟩;have I:=S.h.notM m;have s:∀d,H d≠none->Ab H v (Ob.st Ba (0:Int)) d=H d:=λd r=>Ag _ _ λe=>r (by grind);refine Vo (M:=M) (Fs:=Fs) (J:=λH'=>(∃x:Int,H' v=some (.st Ba x))/\Jd b M H H') (P:=λM' H'=>∃e:Int,H' v=some (.st Ba e)/\B.Ok M'.T e/\B.den M'.T e=F) (S.KK s) (by omega) hl hF Z (λH1 R⟨⟨x,A⟩,q⟩f=>⟨⟨x,by rw[f.at (by grind) I];exact A⟩,q.trans f .refl⟩) ⟨⟨0,Ai _ _ _⟩,Jd.new m⟩ ?_ ?_
 .intro M' H' c X' Q' W iI iV i ⟨⟨x,A⟩,q⟩ u y;apply WN;unfold Ql;have j:∀{a},J7 b M' H' a->(∃x:Int,a v=some (.st Ba x))/\Jd b M H a:=λ{a}f=>⟨⟨x,by rw[(f.same i.bs).at I];exact A⟩,q.trans (f.same i.bs).h .refl⟩
  refine E M' H' c _ _ W iI iV i q (λo a l z st n f T=>u o a l z st n (j f) T) λe o a z st n f K C r=>?_;obtain⟨⟨x2,p⟩,G⟩:=j f;have U:=(I.same i.bs).same st.bs;refine⟨v,rfl,x2,p,y o _ ⟨?_,z.NB.other U p⟩ st n ⟨⟨_,Ai _ _ _⟩,λd L a1 a2 a3 a4 a5 V=>?_⟩ K ⟨e,Ai _ _ _,C,r⟩⟩
  .rw[Ag _ _ (Bg z.cx p (by decide))];exact z.cx
  .rw[Ag _ _ (λe=>L (by grind))];exact G d L a1 a2 a3 a4 a5 V
 .intro M' H' g i K ⟨_,q⟩ ⟨e,O,C,r⟩;refine⟨λh=>qG rfl h,λ_=>⟨b,rfl,M'.ob,g.h.ob,rfl,e,O,rfl,?_⟩⟩;refine JT g.h.st g.i.si.sc.po λt ht=>⟨λh=>qG (ht.2 C) h,λ_=>⟨e,O,rfl,?_⟩⟩
  refine Oo g.h g.i (by rw[i.nx];omega) C λY R h2 i2 N nx ln w G=>?_;rw[i.nx];refine hq Y R (N.mg g h2 i2) ⟨i.bs.trans N.bs,nx.trans (by rw[i.nx]),ln.trans (by rw[i.hs]),λk=>?_⟩ (q.trans G.h i.bs);rw[w,i.nx,i.Aq];show (if k=M.nx then some (B.den M'.T e) else _)=_;rw[r]
def ZB(b:Nat)(T:B.Fn->B.Fn->B.Fn)(f:FT Y0 [.ptr,.int .i64,.int .i64] [.int .i64]):Prop:=∀M' H' c e1 e2(X':PX)(Q':Int×Unit->HP),MD H' c b M'->SI M'.S->MV M'->B.Ok M'.T e1->B.Ok M'.T e2->(∀M'' H'' l,MD H'' c b M''->MC M' M''->L1 M' M'' (T (B.den M'.T e1) (B.den M'.T e2))->J7 b M' H' H''->WZ M' M'' l->X' 231 l H'')->(∀e M'' H'',MD H'' c b M''->MC M' M''->L1 M' M'' (T (B.den M'.T e1) (B.den M'.T e2))->J7 b M' H' H''->M''.ws=M'.ws->B.Ok M''.T e->B.den M''.T e=T (B.den M'.T e1) (B.den M'.T e2)->Q' (e,()) H'')->f (some c,e1,e2,()) H' Q' X'
variable {g:Int}
theorem Ff{Q:Int×Unit->UU}(f:MD H c b M)(k:MI M)(hF:M.Aq g=some F)(h:∀e,B.Ok M.T e->B.den M.T e=F->Q (e,()) () H):qK CD Cs (some c,g,()) H Q X:=by obtain⟨e,d,i⟩:=Mn.Es hF;refine Aem f (λj=>by grind) λl a=>?_;rw[d]at a;cases a;exact h e (k.ok g e d).1 i
theorem Ads{n:Int}{T:B.Fn->B.Fn->B.Fn}(d:∀F G a b,(F a=F b)->(G a=G b)->T F G a=T F G b){G:B.Fn}(f:B.RD n F)(e:B.RD n G):B.RD n (T F G):=λa b c=>d F G a b (f a b c) (e a b c)
theorem MG.rd(h:MG H b M)(hF:M.Aq g=some F):B.RD M.S.n F:=by obtain⟨e,a,rfl⟩:=Mn.Es hF;exact h.i.si.BS.rd (h.i.ok g e a).1
theorem TA{T:B.Fn->B.Fn->B.Fn}{f:FT Y0 [.ptr,.int .i64,.int .i64] [.int .i64]}{k:Int}{G:B.Fn}{Q:Int×Int×Unit->UU}(r:MG H b M)(C:M.nx<576460752303423487)(J:M.hs.length<=60000)(N:∀F G a b,(F a=F b)->(G a=G b)->T F G a=T F G b)(O:ZB b T f)(hF:M.Aq g=some F)(u:M.Aq k=some G)(I:∀M' H',MG H' b M'->Uz M M' (T F G)->Jd b M H H'->Q (M.nx,0,()) () H'):qK QG MQ (some b,f,g,k,()) H Q X:=by
 refine wF Tryz.f129 {im:=[5,6,7]} (?_:UZ (some b) f g k H Q X);unfold UZ;refine Pu (Fs:=[T F G]) (F:=T F G) r C J (by simp) (λx w=>?_) ?_ λM' H' S R v=>I M' H' S R v
 .rw[ad]at w;subst w;exact Ads N (r.rd hF) (r.rd u)
 .intro M' H' c W Y n o U y v j m;apply YY;unfold Ry;refine Ff n o (by rw[y.Aq];exact hF) λD V p=>Ff n o (by rw[y.Aq];exact u) λE L s=>?_;refine O M' H' c D E _ _ n o.si U V L (λi d l t q h f z=>j i d l t q (h.l (by grind)) f z) λe i d t q h f A K P=>m e i d t q (h.l (by grind)) f A K (by rw[P,p,s])
end
section
def C6(F G:B.Fn):B.Fn:=λa=>F a&&G a
def Q4(F G:B.Fn):B.Fn:=λa=>F a ||G a
def S8(F G:B.Fn):B.Fn:=λa=>F a ^^ G a
def Tg(F G:B.Fn):B.Fn:=λa=>!F a ||G a
def Th(F G:B.Fn):B.Fn:=λa=>F a==G a
variable {b:Nat}
theorem KW{T:B.Fn->B.Fn->B.Fn}{f:FT Y0 [.ptr,.int .i64,.int .i64] [.int .i64]}(g h:Int->Int)(q:∀{N:B.Tb}{e:Int},B.Ok N e->B.Ok N (g e)/\B.Ok N (h e))(t:∀{N:B.Tb}{e1 e2:Int},B.Ok N e1->B.Ok N e2->CU (B.den N e1) (B.den N (g e2)) (B.den N (h e2))=T (B.den N e1) (B.den N e2))(v:∀c e1 e2 H X(Q:Int×Unit->HP),qK BO BF (c,e1,g e2,h e2,()) H (λb _ H'=>Q (b.1,()) H') X->f (c,e1,e2,()) H Q X):ZB b T f:=by intro E H' c e1 e2 z s w u A r n j m;refine v (some c) e1 e2 H' z s ?_;have k:=t r n;exact XW w u A r (q n).1 (q n).2 (λd i l o p a f D=>j d i l o p (by grind) f D) λe d i o p a f C y x=>m e d i o p (by grind) f C y (by grind)
theorem Ahn:ZB b C6 (λa H Q X=>qK P0 Ml (a.1,a.2.1,a.2.2.1,()) H (λb _ H'=>Q (b.1,()) H') X):=
 KW (λe=>e) (λ_=>1) (λh=>⟨h,B.ok_one⟩) (λ_ _=>by funext a;rw[B.EW];simp only[CU,C6];cases B.den _ _ a<;>simp) λc d f H X Q h=>Ais _ _ _ _ _ _ h
theorem Avv:ZB b Q4 (λa H Q X=>qK V8 Rl (a.1,a.2.1,a.2.2.1,()) H (λb _ H'=>Q (b.1,()) H') X):=
 KW (λ_=>0) (λe=>e) (λh=>⟨B.Pq,h⟩) (λ_ _=>by funext a;rw[B.HU];simp only[CU,Q4];cases B.den _ _ a<;>simp) λc d f H X Q h=>Ama _ _ _ _ _ _ h
theorem Ap1:ZB b S8 (λa H Q X=>qK Tk Pg (a.1,a.2.1,a.2.2.1,()) H (λb _ H'=>Q (b.1,()) H') X):=
 KW B.flip (λe=>e) (λh=>⟨h.flip,h⟩) (λ{N d g}i f=>by funext a;rw[B.HM f];simp only[CU,S8];cases B.den N d a<;>simp) λc d g H X Q h=>Aim _ _ _ _ _ _ h
theorem Agq:ZB b Tg (λa H Q X=>qK Pz Mj (a.1,a.2.1,a.2.2.1,()) H (λb _ H'=>Q (b.1,()) H') X):=
 KW (λe=>e) (λ_=>0) (λh=>⟨h,B.Pq⟩) (λ_ _=>by funext a;rw[B.HU];simp only[CU,Tg];cases B.den _ _ a<;>simp) λc d f H X Q h=>Aio _ _ _ _ _ _ h
theorem Ars:ZB b Th (λa H Q X=>qK Tl Ph (a.1,a.2.1,a.2.2.1,()) H (λb _ H'=>Q (b.1,()) H') X):=
 KW (λe=>e) B.flip (λh=>⟨h,h.flip⟩) (λ{N d f}i g=>by funext a;rw[B.HM g];simp only[CU,Th];cases B.den N d a<;>cases B.den N f a<;>rfl) λc d f H X Q h=>Aiq _ _ _ _ _ _ h
def V5(T:B.Fn->B.Fn->B.Fn):B.Fn->List B.Fn->List B.Fn
 |_,[]=>[]
 |F,G::l=>T F G::V5 T (T F G) l
theorem XR{T:B.Fn->B.Fn->B.Fn}:∀{l:List B.Fn}{F:B.Fn},(V5 T F l).length=l.length
 | [],_=>rfl
 |_::l,_=>by simp [V5,XR (l:=l)]
theorem Abt{T:B.Fn->B.Fn->B.Fn}:∀{l:List B.Fn}{F:B.Fn}{k:Nat}(h:k<l.length),T ((l.take k).foldl T F) l[k]∈V5 T F l
 |G::l,F,0,_=>bz
 |G::l,F,k+1,h=>az _ (by simpa using Abt (l:=l) (F:=T F G) (k:=k) (by simpa using h))
theorem Abs{n:Int}{T:B.Fn->B.Fn->B.Fn}(d:∀F G a b,(F a=F b)->(G a=G b)->T F G a=T F G b):∀{l:List B.Fn}{F:B.Fn},B.RD n F->(∀G∈l,B.RD n G)->∀K∈V5 T F l,B.RD n K
 | [],_,_,_,_,h=>qG h List.not_mem_nil
 |G::l,F,i,e,K,h=>by
  have c:=Ads d i (e G bz);rcases au.1 h with rfl|h
  .exact c
  .exact Abs d c (λf g=>e f (az _ g)) K h
variable {M:Mn} {l:List Int} {Gs:List B.Fn} {H:HY} {X:PX} {Q:Int×Int×Unit->UU}
theorem Oi{T:B.Fn->B.Fn->B.Fn}{f:FT Y0 [.ptr,.int .i64,.int .i64] [.int .i64]}{e0:Int}{F0:B.Fn}(K:MG H b M)(hn:M.nx<576460752303423487)(hl:M.hs.length<=60000)(hT:∀F G a b,(F a=F b)->(G a=G b)->T F G a=T F G b)(hf:ZB b T f)(o:∀N:B.Tb,B.Ok N e0/\B.den N e0=F0)(hlen:l.length<=1000)(hG:l.map M.Aq=Gs.map some)(hq:∀M' H',MG H' b M'->Uz M M' (Gs.foldl T F0)->Jd b M H H'->Q (M.nx,0,()) () H'):qK Nc KX (some b,e0,f,l,()) H Q X:=by
 refine wF Tryz.f73 {im:=[5,6,7]} (?_:qK JZ Ip ((some b),λ(a:Option Nat×UT)(H:HY)(Q:Int×UT->HP)(X:Nat->Lf Y0.D->HP)=>qK RW MO (a.1,e0,l,f,()) H (λ(c:Int×UT)(x:UT)(G:HY)=>Q (c.1,()) G) X,()) H (λ(c:Int×Int×UT)_ G=>Q (c.1,c.2.1,()) () G) X);have hgl:Gs.length=l.length:=by have:=congrArg List.length hG;simpa using this.symm
 have D:∀k(h:k<l.length)(V:k<Gs.length),M.Aq l[k]=some Gs[k]:=λk h V=>by
  have Y:(l.map M.Aq)[k]?=(Gs.map some)[k]?:=by rw[hG]
  rw[bh,bh,a7 h,a7 V]at Y;simpa using Y
 have U:B.RD M.S.n F0:=by rw[<-(o M.T).2];exact K.i.si.BS.rd (o M.T).1
 refine Pu (Fs:=V5 T F0 Gs) (F:=Gs.foldl T F0) K hn hl (by grind[XR]) (Abs hT U λG O=>?_) ?_ λM' H' g' nw W=>hq M' H' g' nw W
 .obtain⟨k,Z,rfl⟩:=ab.1 O;exact K.rd (D k (by omega) Z)
 .intro M' H' c X' Q' cx iI iV kp W x A;apply YX;unfold Rx;intro _;refine⟨λn z y=>n=l.length-z.2.1/\z.2.1<=l.length/\∃g,MD y c b g/\MC M' g/\PI M' g (V5 T F0 Gs)/\J7 b M' H' y/\g.ws=M'.ws/\B.Ok g.T z.1/\B.den g.T z.1=(Gs.take z.2.1).foldl T F0,⟨_,rfl,aa _,M',cx,MC.refl iI.si iV,PI.refl,J7.refl,rfl,(o _).1,(o _).2⟩,?_⟩;rintro n ⟨e,k,_⟩ y ⟨w,C,g,t,d,j,R,I,E,r⟩;have hnk:n=l.length-k:=w;have Z:k<=l.length:=C;replace E:B.Ok g.T e:=E;replace r:B.den g.T e=(Gs.take k).foldl T F0:=r;obtain⟨i2,L⟩:=d.kp iI (by grind);refine⟨λq _=>?_,λq=>?_⟩
  .have i:k<l.length:=q;have s:k<Gs.length:=by omega
   have p:=Abt (T:=T) (F:=F0) s;refine⟨i,Ff t i2 (by rw[L.Aq,kp.Aq];exact D k i s) λe2 o3 S=>?_⟩;refine hf g y c e e2 _ _ t i2.si d.mv E o3 (λJ H3 l3 v u m P hp=>?_) λe3 J H3 v u m P w3 o4 d4=>⟨by grind,l.length-(k+1),by omega,rfl,by grind,J,v,d.trans u,j.trans (m.l (by grind)),R.trans P d.bs,w3.trans I,o4,?_⟩
   .exact x J H3 l3 v (d.trans u) (j.trans (m.l (by grind))) (R.trans P d.bs) (hp.step I)
   .show B.den J.T e3=(Gs.take (k+1)).foldl T F0;rw[d4,r,S,a8 s,c8];rfl
  grind
theorem MZ(g:MG H b M)(f:M.nx<576460752303423487)(d:M.hs.length<=60000)(c:l.length<=1000)(e:l.map M.Aq=Gs.map some)(j:∀M' H',MG H' b M'->Uz M M' (Gs.foldl C6 (λ_=>true))->Jd b M H H'->Q (M.nx,0,()) () H'):qK Cy Ci (some b,l,()) H Q X:=by refine Ai0 _ _ _ _ _ (Oi (T:=C6) g f d (λF G a b i h=>by grind[C6]) Ahn (λN=>⟨B.Pq,B.HU⟩) c e j)
theorem Pn(g:MG H b M)(f:M.nx<576460752303423487)(d:M.hs.length<=60000)(c:l.length<=1000)(e:l.map M.Aq=Gs.map some)(j:∀M' H',MG H' b M'->Uz M M' (Gs.foldl Q4 (λ_=>false))->Jd b M H H'->Q (M.nx,0,()) () H'):qK IS Hx (some b,l,()) H Q X:=by refine Amc _ _ _ _ _ (Oi (T:=Q4) g f d (λF G a b i h=>by grind[Q4]) Avv (λN=>⟨B.ok_one,B.EW⟩) c e j)
theorem Ad1(g:MG H b M)(f:M.nx<576460752303423487)(d:M.hs.length<=60000)(c:l.length<=1000)(e:l.map M.Aq=Gs.map some)(j:∀M' H',MG H' b M'->Uz M M' (Gs.foldl S8 (λ_=>false))->Jd b M H H'->Q (M.nx,0,()) () H'):qK Tm Pj (some b,l,()) H Q X:=by refine Aiu _ _ _ _ _ (Oi (T:=S8) g f d (λF G a b i h=>by grind[S8]) Ap1 (λN=>⟨B.ok_one,B.EW⟩) c e j)
theorem Ad2{g k:Int}{F G:B.Fn}(h:MG H b M)(f:M.nx<576460752303423487)(c:M.hs.length<=60000)(hF:M.Aq g=some F)(e:M.Aq k=some G)(d:∀M' H',MG H' b M'->Uz M M' (Tg F G)->Jd b M H H'->Q (M.nx,0,()) () H'):qK To Pk (some b,g,k,()) H Q X:=
 Aiw _ _ _ _ _ _ (TA (T:=Tg) h f c (λF G a b j i=>by grind[Tg]) Agq hF e d)
theorem Vb{g k:Int}{F G:B.Fn}(h:MG H b M)(f:M.nx<576460752303423487)(c:M.hs.length<=60000)(hF:M.Aq g=some F)(e:M.Aq k=some G)(d:∀M' H',MG H' b M'->Uz M M' (Th F G)->Jd b M H H'->Q (M.nx,0,()) () H'):qK P1 Mm (some b,g,k,()) H Q X:=
 Aiy _ _ _ _ _ _ (TA (T:=Th) h f c (λF G a b j i=>by grind[Th]) Ars hF e d)
end
section
variable {b:Nat} {M:Mn} {g:Int} {F G:B.Fn} {H:HY} {X:PX}
theorem X0{T:B.Fn->B.Fn->B.Fn}{f:FT Y0 [.ptr,.int .i64,.int .i64] [.int .i64]}{k want:Int}{W:B.Fn}{Q:Bool×Int×Unit->UU}(D:MG H b M)(hn:M.nx<576460752303423487)(hl:M.hs.length<=60000)(hT:∀F G a b,(F a=F b)->(G a=G b)->T F G a=T F G b)(hf:ZB b T f)(hF:M.Aq g=some F)(V:M.Aq k=some G)(hw:∀N:B.Tb,B.Ok N want/\B.den N want=W)(Z:∀M' H'(t:Bool),(t=true↔T F G=W)->MG H' b M'->Kp M M'->Jd b M H H'->Q (t,0,()) () H'):qK VA Rm (some b,f,g,k,want,()) H Q X:=by
 refine wF Tryz.f76 {pr:=[(12,9)],im:=[6,7,8,9]} (?_:Aax (some b) f g k want H Q X);unfold Aax;intro A n;have S:=D.h.notM n;have v:∀d,H d≠none->Ab H A (Ob.st Ho false) d=H d:=λd L=>Ag _ _ λe=>L (by grind);apply WM;unfold Qi;refine⟨λh=>qG h (by simp),λ_=>?_⟩;refine Vo (M:=M) (Fs:=[T F G]) (J:=λH'=>(∃x:Bool,H' A=some (.st Ho x))/\Jd b M H H') (P:=λM' H'=>∃x:Bool,H' A=some (.st Ho x)/\(x=true↔T F G=W)) (D.KK v) (by omega) hl (by simp) (λx m=>?_) (λH1 H2⟨⟨x,m⟩,u⟩f=>⟨⟨x,by rw[f.at (by grind) S];exact m⟩,u.trans f .refl⟩) ⟨⟨false,Ai _ _ _⟩,Jd.new n⟩ ?_ ?_
 .rw[ad]at m;subst m;exact Ads hT (D.rd hF) (D.rd V)
 .intro M' H' c X' Q' O E iV p ⟨⟨x,m⟩,u⟩ w y;apply Ad0;unfold UY;have j:∀{i},J7 b M' H' i->(∃x:Bool,i A=some (.st Ho x))/\Jd b M H i:=λ{i}f=>⟨⟨x,by rw[(f.same p.bs).at S];exact m⟩,u.trans (f.same p.bs).h .refl⟩
  refine Ff O E (by rw[p.Aq];exact hF) λe1 o1 I=>Ff O E (by rw[p.Aq];exact V) λe2 o2 R=>?_;refine hf M' H' c e1 e2 _ _ O E.si iV o1 o2 (λo i l C st q f hp=>w o i l C st (q.l (by grind)) (j f) hp) λe o i C st q f K ho L=>?_;obtain⟨⟨x2,r⟩,f2⟩:=j f;have n2:=(S.same p.bs).same st.bs;refine⟨A,rfl,x2,r,y o _ ⟨?_,C.NB.other n2 r⟩ st (q.l (by grind)) ⟨⟨_,Ai _ _ _⟩,λd U a1 a2 a3 a4 a5 a6=>?_⟩ K ⟨_,Ai _ _ _,?_⟩⟩
  .rw[Ag _ _ (Bg C.cx r (by decide))];exact C.cx
  .rw[Ag _ _ (λe=>U (by grind))];exact f2 d U a1 a2 a3 a4 a5 a6
  .show decide (e=want)=true↔_;rw[decide_eq_true_eq,st.si.BS.eq_iff B9.Ko ho (hw _).1,(hw _).2];show B.den o.T e=W↔_;rw[L,I,R]
 grind
theorem KJ{k:Int}{Q:Bool×Int×Unit->UU}(v:MG H b M)(s:M.nx<576460752303423487)(u:M.hs.length<=60000)(hF:M.Aq g=some F)(w:M.Aq k=some G)(n:∀M' H'(t:Bool),(t=true↔∃a,F a=true/\G a=true)->MG H' b M'->Kp M M'->Jd b M H H'->Q (t,0,()) () H'):qK Iv Gl (some b,g,k,()) H Q X:=by
 refine wF Tryz.f27 {} (?_:qK VA Rm ((some b),λ(a:Option Nat×Int×Int×UT)(H:HY)(Q:Int×UT->HP)(X:Nat->Lf Y0.D->HP)=>qK P0 Ml (a.1,a.2.1,a.2.2.1,()) H (λ(c:Int×UT)(x:UT)(G:HY)=>Q (c.1,()) G) X,g,k,1,()) H (λ(c:Bool×Int×UT)_ G=>(¬c.1->Q (decide (c.2.1=0),c.2.1,()) () G)/\(¬¬c.1->Q (false,c.2.1,()) () G)) X);refine X0 (T:=C6) (W:=λ_=>false) v s u (λF G a b f j=>by grind[C6]) Ahn hF w (λN=>⟨B.ok_one,B.EW⟩) λM' H' t q o p r=>⟨λl=>?_,λl=>?_⟩
 .refine n M' H' (decide ((0:Int)=0)) ⟨λ_=>?_,λ_=>by simp⟩ o p r;have e:¬C6 F G=λ_=>false:=λh=>l (q.2 h);refine ar λi=>e (funext λa=>?_);grind[C6]
 .have d:=q.1 (bg.1 l);refine n M' H' false ⟨λh=>(by cases h),λ⟨a,f,j⟩=>?_⟩ o p r;have:=congrFun d a;grind[C6]
variable {Q:Int×Int×Unit->UU}
theorem Abc{f h:Int}{K:B.Fn}(o:MG H b M)(I:M.nx<576460752303423487)(L:M.hs.length<=60000)(hF:M.Aq f=some F)(y:M.Aq g=some G)(A:M.Aq h=some K)(J:∀M' H',MG H' b M'->Uz M M' (CU F G K)->Jd b M H H'->Q (M.nx,0,()) () H'):qK Sa MS (some b,f,g,h,()) H Q X:=by
 refine wF Tryz.f101 {im:=[5,6,7]} (?_:qK JZ Ip ((some b),λ(a:Option Nat×UT)(H:HY)(Q:Int×UT->HP)(X:Nat->Lf Y0.D->HP)=>qK O3 KZ (a.1,f,g,h,()) H (λ(c:Int×UT)(x:UT)(G:HY)=>Q (c.1,()) G) X,()) H (λ(c:Int×Int×UT)_ G=>Q (c.1,c.2.1,()) () G) X);refine Pu (Fs:=[CU F G K]) (F:=CU F G K) o I L (by simp) (λx z=>?_) ?_ J
 .rw[ad]at z;subst z;exact λa c i=>by simp only[CU];rw[o.rd hF a c i,o.rd y a c i,o.rd A a c i]
 .intro M' H' c V T p q O t Z n m;apply VN;unfold O8;refine Ff p q (by rw[t.Aq];exact hF) λU R u=>Ff p q (by rw[t.Aq];exact y) λW D v=>Ff p q (by rw[t.Aq];exact A) λY E s=>?_;exact XW p q.si O R D E (λk j l w r d f C=>n k j l w r (d.l (by grind)) f C) λe k j w r d f S N P=>m e k j w r (d.l (by grind)) f S N (by rw[P,u,v,s])
theorem Zh(d:MG H b M)(o:M.nx<576460752303423487)(hF:M.Aq g=some F)(i:∀M' H',MG H' b M'->Uz M M' F->Jd b M H H'->Q (M.nx,0,()) () H'):qK HL FB (some b,g,()) H Q X:=
 Abf d.h d.i (by omega) (λh=>by grind) λn M' H' a l j e k m c f=>by rw[hF]at a;cases a;exact i M' H' (e.mg d l j) ⟨e.bs,k,m,c⟩ f.h
theorem TD(e:MG H b M)(p:M.nx<576460752303423487)(hF:M.Aq g=some F)(l:∀M' H',MG H' b M'->Uz M M' (λa=>!F a)->Jd b M H H'->Q (M.nx,0,()) () H'):qK KN IF (some b,g,()) H Q X:=
 Ad7 e.h e.i (by omega) (λh=>by grind) λo M' H' c k m i j n d f=>by rw[hF]at c;cases c;exact l M' H' (i.mg e k m) ⟨i.bs,j,n,d⟩ f.h
structure A1m(M M':Mn)(g:Int):Prop where
 bs:Dx M M'
 nx:M'.nx=M.nx
 ln:M'.hs.length+1=M.hs.length
 Aq:∀k,M'.Aq k=if k=g then none else M.Aq k
theorem RE{Q:Int×Unit->UU}(a:MG H b M)(q:M.nx<576460752303423487)(o:1<g)(hF:M.Aq g=some F)(n:∀M' H'(e:Int),MG H' b M'->A1m M M' g->Jd b M H H'->Q (e,()) () H'):qK FC E7 (some b,[g],()) H Q X:=by
 obtain⟨e,h,_⟩:=Mn.Es hF;refine Abe a.h a.i (by omega) λM' H' l m c j d f=>?_;have p:(Mz [g] M.hs).1=Db M.hs g:=by unfold Mz;rw[h];simp only[Option.isSome_some,if_true,o];rfl
 rw[p]at d;refine n M' H' _ (c.mg a l m) ⟨c.bs,j,by rw[d];exact(RN (i:=0) h).2,λk=>?_⟩ f.h;show (Ad M'.hs k).map (B.den M'.T)=_;rw[d,It a.i.nd,show M'.T=M.T from c.Ax];split<;>rfl
end
section
set_option maxRecDepth 100000
set_option maxHeartbeats 2000000
def Sk(x:Option Nat)(p1:List BI)(H:HY)(Q:Int×UT->UU)(X:PX):=(0+p1.length)*16<=2^47/\(([]++p1).length<=2^63-1->∃(V:Nat->List BI×Int×UT->HP),(∃(n:Nat),V n ([]++p1,0,()) H)/\∀n x1 H,V n x1 H->(x1.2.1<(↑([]++p1).length:Int)->∃(V1:Nat->List BI×Int×UT->HP),(∃(n:Nat),V1 n (x1.1,x1.2.1,()) H)/\∀n1 x2 H,V1 n1 x2 H->((0:Int)<x2.2.1->IK x2.2.1->IK (x2.2.1-1)/\(IK (x2.2.1-1)->(IK (x2.2.1-1)->0<=x2.2.1-1)/\∃(h:(x2.2.1-1).toNat<x2.1.length),∃(h:(x2.2.1-1).toNat<x2.1.length),IK x2.2.1->(IK x2.2.1->0<=x2.2.1)/\∃(h1:x2.2.1.toNat<x2.1.length),qK CY CC (x,x2.1[(x2.2.1-1).toNat].Var,()) H (λ(b:Int×UT)_ G=>∃(h:x2.2.1.toNat<x2.1.length),qK CY CC (x,x2.1[x2.2.1.toNat].Var,()) G (λ(b1:Int×UT)_ G=>(b.1<b1.1->IK x2.2.1->IK (x2.2.1-1)/\(IK x2.2.1->(IK x2.2.1->0<=x2.2.1)/\∃(h:x2.2.1.toNat<x2.1.length),∃(h:x2.2.1.toNat<x2.1.length),IK x2.2.1->IK (x2.2.1-1)/\(IK (x2.2.1-1)->(IK (x2.2.1-1)->0<=x2.2.1-1)/\∃(h2:(x2.2.1-1).toNat<x2.1.length),∃(h3:(x2.2.1-1).toNat<x2.1.length),IK (x2.2.1-1)->(IK (x2.2.1-1)->0<=x2.2.1-1)/\∃(h4:(x2.2.1-1).toNat<x2.1.length),(x2.2.1-1).toNat<x2.1.length/\(IK x2.2.1->(IK x2.2.1->0<=x2.2.1)/\∃(h5:x2.2.1.toNat<(x2.1.set (x2.2.1-1).toNat x2.1[x2.2.1.toNat]).length),x2.2.1.toNat<(x2.1.set (x2.2.1-1).toNat x2.1[x2.2.1.toNat]).length/\(IK x2.2.1->IK (x2.2.1-1)/\∃m,m<n1/\V1 m ((x2.1.set (x2.2.1-1).toNat x2.1[x2.2.1.toNat]).set x2.2.1.toNat x2.1[(x2.2.1-1).toNat],x2.2.1-1,()) G)))))/\(¬b.1<b1.1->IK x1.2.1->IK (x1.2.1+1)/\∃m,m<n/\V m (x2.1,x1.2.1+1,()) G)) X) X/\∃(h2:x2.2.1.toNat<x2.1.length),qK CY CC (x,x2.1[(x2.2.1-1).toNat].Var,()) H (λ(b:Int×UT)_ G=>qK CY CC (x,x2.1[x2.2.1.toNat].Var,()) G (λ(b1:Int×UT)_ G=>(b.1<b1.1->IK x2.2.1->IK (x2.2.1-1)/\(IK x2.2.1->(IK x2.2.1->0<=x2.2.1)/\∃(h:x2.2.1.toNat<x2.1.length),∃(h:x2.2.1.toNat<x2.1.length),IK x2.2.1->IK (x2.2.1-1)/\(IK (x2.2.1-1)->(IK (x2.2.1-1)->0<=x2.2.1-1)/\∃(h3:(x2.2.1-1).toNat<x2.1.length),∃(h4:(x2.2.1-1).toNat<x2.1.length),IK (x2.2.1-1)->(IK (x2.2.1-1)->0<=x2.2.1-1)/\∃(h5:(x2.2.1-1).toNat<x2.1.length),(x2.2.1-1).toNat<x2.1.length/\(IK x2.2.1->(IK x2.2.1->0<=x2.2.1)/\∃(h6:x2.2.1.toNat<(x2.1.set (x2.2.1-1).toNat x2.1[x2.2.1.toNat]).length),x2.2.1.toNat<(x2.1.set (x2.2.1-1).toNat x2.1[x2.2.1.toNat]).length/\(IK x2.2.1->IK (x2.2.1-1)/\∃m,m<n1/\V1 m ((x2.1.set (x2.2.1-1).toNat x2.1[x2.2.1.toNat]).set x2.2.1.toNat x2.1[(x2.2.1-1).toNat],x2.2.1-1,()) G)))))/\(¬b.1<b1.1->IK x1.2.1->IK (x1.2.1+1)/\∃m,m<n/\V m (x2.1,x1.2.1+1,()) G)) X) X))/\(¬(0:Int)<x2.2.1->dup (IK x1.2.1->IK (x1.2.1+1)/\∃m,m<n/\V m (x2.1,x1.2.1+1,()) H)))/\(¬x1.2.1<(↑([]++p1).length:Int)->x1.1.length<=2^63-1->∃(V:Nat->Int×List BI×Nat×UT->HP),(∃(n:Nat),V n (0,x1.1,0,()) H)/\∀n x2 H,V n x2 H->(x2.2.2.1<x1.1.length->x2.2.2.1<=2^63-1->∃(h:x2.2.2.1<x2.2.1.length),∃(h:x2.2.2.1<x2.2.1.length),(x2.2.1[x2.2.2.1].Ss->qK E2 DN (x,x2.2.1[x2.2.2.1].Var,1,x2.1,()) H (λ(b:Int×UT)_ G=>x2.2.2.1+1<=2^63-1/\∃m,m<n/\V m (b.1,x2.2.1,x2.2.2.1+1,()) G) X)/\(¬x2.2.1[x2.2.2.1].Ss->qK E2 DN (x,x2.2.1[x2.2.2.1].Var,x2.1,1,()) H (λ(b:Int×UT)_ G=>x2.2.2.1+1<=2^63-1/\∃m,m<n/\V m (b.1,x2.2.1,x2.2.2.1+1,()) G) X))/\(¬x2.2.2.1<x1.1.length->Q (x2.1,()) () H)))
theorem Z0 x p1 H Q X(h_:Sk x p1 H Q X):qK Sb MT (x,p1,()) H Q X:=wF Tryz.f144 {lp:=[(12,⟨[(7,.one (.dat I6)),(58,.one (.own (.u 11))),(60,.nat)],[0,58,59],true⟩),(6,⟨[(4,.one (.own (.u 11))),(6,.one (.dat I6))],[0,4,14,15],true⟩),(3,⟨[(4,.one (.own (.u 11))),(15,.one (.dat I6))],[0,4,14],true⟩)]} h_
def Qm(m:Option Nat)(l:List BI)(H:HY)(Q:Int×UT->UU)(X:PX):=l.length<=2^63-1->∃(V:Nat->Nat×UT->HP),(∃(n:Nat),V n (0,()) H)/\∀n x H,V n x H->(x.1<l.length->x.1<=2^63-1->∃(h:x.1<l.length),(l[x.1].Var<0->dup (Q (9,()) () H))/\(¬l[x.1].Var<0->qK E9 DM (m,()) H (λ(b:Int×UT)_ G=>(b.1<=l[x.1].Var->Q (9,()) () G)/\(¬b.1<=l[x.1].Var->x.1+1<=2^63-1/\∃m,m<n/\V m (x.1+1,()) G)) X))/\(¬x.1<l.length->l.length<=2^63-1->∃(V:Nat->Bool×Nat×UT->HP),(∃(n:Nat),V n (false,0,()) H)/\∀n x H,V n x H->(x.2.1<l.length->x.2.1<=2^63-1->∃(h:x.2.1<l.length),0<=x.2.1/\x.2.1<=l.length/\((ap (x.2.1-0) (aq 0 l)).length<=2^63-1->∃(V1:Nat->Bool×(Int×Bool×UT)×Nat×UT->HP),(∃(n:Nat),V1 n (x.1,(l[x.2.1].Var,l[x.2.1].Ss,()),0,()) H)/\∀n1 x1 H,V1 n1 x1 H->(x1.2.2.1<(ap (x.2.1-0) (aq 0 l)).length->x1.2.2.1<=2^63-1->∃(h:x1.2.2.1<(ap (x.2.1-0) (aq 0 l)).length),(x1.2.1.1=(ap (x.2.1-0) (aq 0 l))[x1.2.2.1].Var->(x1.2.1.1=(ap (x.2.1-0) (aq 0 l))[x1.2.2.1].Var->Q (6,()) () H)/\(¬x1.2.1.1=(ap (x.2.1-0) (aq 0 l))[x1.2.2.1].Var->Q (0,()) () H))/\(¬x1.2.1.1=(ap (x.2.1-0) (aq 0 l))[x1.2.2.1].Var->x1.2.2.1+1<=2^63-1/\∃m1,m1<n1/\V1 m1 (decide (x1.2.1.1=(ap (x.2.1-0) (aq 0 l))[x1.2.2.1].Var),(x1.2.1.1,x1.2.1.2.1,()),x1.2.2.1+1,()) H))/\(¬x1.2.2.1<(ap (x.2.1-0) (aq 0 l)).length->x.2.1+1<=2^63-1/\∃m,m<n/\V m (x1.1,x.2.1+1,()) H)))/\(¬x.2.1<l.length->(x.1->Q (6,()) () H)/\(¬x.1->Q (0,()) () H)))
end
section
def DQ(l:List BI):B.Fn:=λa=>l.all λt=>a t.Var==t.Ss
variable {l:List BI}
theorem EX{a:B.As}:DQ l a=true↔∀t∈l,a t.Var=t.Ss:=by grind[DQ]
theorem Aeo{m:List BI}(h:l.Perm m):DQ l=DQ m:=by funext a;rw[bq,EX,EX];grind
theorem VS{b:Nat}{M:Mn}{H:HY}{X:PX}{Q:Int×Unit->UU}(P:Jr H b M)(U:MI M)(N:∀t∈l,0<=t.Var/\t.Var<M.S.n)(S:(l.map (·.Var)).Nodup)(h:Q (0,()) () H):qK Qf LU (some b,l,()) H Q X:=by
 refine wF Tryz.f143 {lp:=[(12,⟨[(7,.one (.dat .bool)),(9,.blk [.dat I6,.dat .bool]),(40,.nat)],[1,29,30,31,38,39],true⟩),(9,⟨[(7,.one (.dat .bool)),(31,.nat)],[1,29,30],true⟩),(2,⟨[(14,.nat)],[0,1,12,13],true⟩)],hd:=[(4,[6])]} (?_:Qm (some b) l H Q X);unfold Qm;refine λ_=>⟨λn z D=>D=H/\n=l.length-z.1/\z.1<=l.length,⟨_,rfl,rfl,aa _⟩,?_⟩
 rintro n ⟨k,_⟩ D ⟨rfl,x,A⟩;have Y:n=l.length-k:=x;have hk:k<=l.length:=A;refine⟨λp y=>?_,λp _=>?_⟩
 .have i:k<l.length:=p;have y:k<=9223372036854775807:=y;have W:=N l[k] (ae i);refine⟨i,λg=>?_,λ_=>L7 P U ⟨λs=>?_,λ_=>⟨by show k+1<=_;omega,l.length-(k+1),by omega,rfl,rfl,by show k+1<=_;omega⟩⟩⟩
  .have g:l[k].Var<0:=g;omega
  .have s:M.S.n<=l[k].Var:=s;omega
 .refine⟨λn z m=>m=D/\n=l.length-z.2.1/\z.2.1<=l.length/\z.1=false,⟨_,rfl,rfl,aa _,rfl⟩,?_⟩;rintro T ⟨B,q,_⟩ m ⟨rfl,u,F,a⟩;have u:T=l.length-q:=u;have J:q<=l.length:=F;have a:B=false:=a;subst a;refine⟨λC y=>?_,λ_=>⟨λR=>(by cases R),λ_=>h⟩⟩;have d:q<l.length:=C;have y:q<=9223372036854775807:=y;refine⟨d,aa _,J,λ_=>⟨λn z G=>G=m/\n=q-z.2.2.1/\z.2.2.1<=q/\z.1=false/\z.2.1.1=l[q].Var,⟨_,rfl,rfl,aa _,rfl,rfl⟩,?_⟩⟩;rintro K ⟨B,⟨O,Z,_⟩,j,_⟩ G ⟨rfl,w,E,a,o⟩;have w:K=q-j:=w;have hj:j<=q:=E;have a:B=false:=a;have o:O=l[q].Var:=o;subst a o;have I:(ap (q-0) (aq 0 l)).length=q:=by simp;omega
  refine⟨λc r=>?_,λc=>?_⟩
  .have V:j<q:=by grind
   have r:j<=9223372036854775807:=r;have v:l[q].Var≠l[j].Var:=λe=>by
    have L:(l.map (·.Var))[q]'(by simpa using d)=(l.map (·.Var))[j]'(by grind):=by grind
    grind[ay]
   have f:(ap (q-0) (aq 0 l))[j]'(by omega)=l[j]:=by simp
   refine⟨c,λe=>?_,λ_=>⟨by grind,q-(j+1),by omega,rfl,rfl,by grind,?_,rfl⟩⟩;all_goals grind
  .exact⟨by grind,l.length-(q+1),by omega,rfl,rfl,by grind,rfl⟩
def QC(lv:Int->Int)(s:List BI)(j:Nat):Int:=match s[j]? with
 |some t=>lv t.Var
 |none=>0
variable {lv:Int->Int} {s:List BI}
theorem FW{j:Nat}(h:j<s.length):QC lv s j=lv s[j].Var:=by unfold QC;rw[a7 h]
variable {k:Nat}
theorem Am4(b:0<k)(h:k<s.length)(j:Nat):QC lv ((s.set (k-1) s[k]).set k (s[k-1]'(by omega))) j=if j=k then QC lv s (k-1) else if j=k-1 then QC lv s k else QC lv s j:=by grind[QC]
def Srt(lv:Int->Int)(s:List BI)(i:Nat)(k:Nat):Prop:=(∀a b,a<b->b<i->a≠k->b≠k->QC lv s b<=QC lv s a)/\∀b,k<b->b<i->QC lv s b<=QC lv s k
theorem Srt.done{i:Nat}(h:Srt lv s (i+1) k)(l:k<=i)(f:k=0∨QC lv s k<=QC lv s (k-1)):∀a b,a<b->b<i+1->QC lv s b<=QC lv s a:=λa b c j=>by
 by_cases g:a=k
 .subst g;exact h.2 b c j
 .by_cases d:b=k
  .subst d;rcases f with f|f
   .omega
   .by_cases e:a=b-1
    .grind
    .exact cj f (h.1 a (b-1) (by omega) (by omega) g (by omega))
  .exact h.1 a b c j g d
theorem Srt.step{i:Nat}(h:Srt lv s (i+1) k)(o:0<k)(q:k<=i)(p:i<s.length)(j:QC lv s (k-1)<QC lv s k):Srt lv ((s.set (k-1) (s[k]'(by omega))).set k (s[k-1]'(by omega))) (i+1) (k-1):=by
 have d:=Am4 (lv:=lv) (s:=s) o (by omega:k<s.length);refine⟨λa b l e m g=>?_,λb n e=>?_⟩
 .rw[d,d];by_cases c:b=k
  .rw[UV c,GT (by omega),GT m];exact h.1 a (k-1) (by omega) (by omega) (by omega) (by omega)
  .rw[GT c,GT g];by_cases f:a=k
   .rw[UV f];exact h.1 (k-1) b (by omega) e (by omega) c
   .rw[GT f,GT m];exact h.1 a b l e f c
 .rw[d,d,GT (by omega:k-1≠k),UV rfl];by_cases c:b=k
  .omega
  .rw[GT c,GT (by omega)];exact h.2 b (by omega) e
end
theorem Aoi{n:Int}{l:List BI}(e:∀t∈l,0<=t.Var/\t.Var<n):B.RD n (DQ l):=λa b d=>by rw[bq,EX,EX];grind
theorem Ajn{lv:Int->Int}{s:List BI}{j:Nat}(u:(s.map (·.Var)).Nodup)(f:j<s.length)(k:∀a b,a<b->b<s.length->QC lv s b<QC lv s a):B.S6 lv (lv s[j].Var) (DQ s) (DQ (s.take (j+1))):=by
 classical
 let b:B.As:=λv=>decide (∃t∈s,t.Var=v/\t.Ss=true);have r:∀t∈s,b t.Var=t.Ss:=λt d=>by
  show decide _=t.Ss;cases m:t.Ss with
  |true=>exact decide_eq_true ⟨t,d,rfl,m⟩
  |false=>
   refine decide_eq_false λ⟨w,l,e,i⟩=>?_;obtain⟨p,n,rfl⟩:=ab.1 d;obtain⟨q,c,rfl⟩:=ab.1 l;have:(s.map (·.Var))[q]'(by simpa using c)=(s.map (·.Var))[p]'(by simpa using n):=by simpa using e
   have:=(ay u).1 this;subst this;rw[m]at i;cases i
 refine⟨false,b,λa=>?_⟩;rw[Bool.false_xor,bq,EX,EX];constructor
 .intro h t d;obtain⟨q,c,rfl⟩:=ab.1 d;unfold B.mix;by_cases o:q<j+1
  .rw[GT]
   .exact h _ (bf.2 ⟨q,by omega,rfl⟩)
   .by_cases e:q=j
    .subst e;omega
    .have:=k q j (by omega) f;rw[FW c,FW f]at this;omega
  .rw[UV]
   .exact r _ (ae c)
   .have:=k j q (by omega) c;rw[FW c,FW f]at this;exact this
 .intro h t d;obtain⟨q,c,rfl⟩:=bf.1 d;have g:q<s.length:=by omega
  have:=h s[q] (ae g);unfold B.mix at this;rw[GT]at this
  .exact this
  .by_cases e:q=j
   .subst e;omega
   .have:=k q j (by omega) f;rw[FW g,FW f]at this;omega
theorem Aen{s:List BI}{j:Nat}(b:j<s.length){F:B.Fn}(hF:F=DQ (s.take j)):(λa:B.As=>if a s[j].Var=true then (if s[j].Ss=true then F a else false) else (if s[j].Ss=true then false else F a))=DQ (s.take (j+1)):=by subst hF;funext a;rw[a8 b];unfold DQ;rw[List.all_append];simp only[List.all_cons,List.all_nil,Bool.and_true];cases a s[j].Var<;>cases s[j].Ss<;>simp
theorem TM{b:Nat}{M:Mn}{l:List BI}{H:HY}{X:PX}{Q:Int×Int×Unit->UU}(hM:MG H b M)(hn:M.nx<576460752303423487)(hl:M.hs.length<=60000)(hlen:l.length<=1000)(hv:∀t∈l,0<=t.Var/\t.Var<M.S.n)(hd:(l.map (·.Var)).Nodup)(hq:∀M' H',MG H' b M'->Uz M M' (DQ l)->Jd b M H H'->Q (M.nx,0,()) () H'):qK J1 Ib (some b,l,()) H Q X:=by
 refine wF Tryz.f71 {im:=[3]} (?_:((some b)=none->Q (0,5,()) () H)/\(¬(some b)=none->qK Qf LU ((some b),l,()) H (λ(c:Int×UT)_ G=>(¬c.1=0->Q (0,c.1,()) () G)/\(¬¬c.1=0->qK JZ Ip ((some b),λ(a:Option Nat×UT)(H:HY)(Q:Int×UT->HP)(X:Nat->Lf Y0.D->HP)=>qK Sb MT (a.1,l,()) H (λ(c:Int×UT)(x:UT)(G:HY)=>Q (c.1,()) G) X,()) G (λ(c:Int×Int×UT)_ G=>Q (c.1,c.2.1,()) () G) X)) X));refine⟨λh=>qG h (by simp),λ_=>VS hM.h hM.i hv hd ⟨λh=>qG rfl h,λ_=>?_⟩⟩;refine Pu (Fs:=[DQ l]) (F:=DQ l) hM hn hl (by simp) (λF hF=>?_) ?_ hq
 .grind[ad,Aoi]
 intro d H1 c X' Q' cx iI iV kp fr hpan hfin;apply Z0;unfold Sk;have nn:d.S.n=M.S.n:=kp.n;have e0:([]++l:List BI)=l:=rfl;refine⟨by omega,λ_=>⟨λn z H'=>H'=H1/\z.1.Perm l/\∃i:Nat,z.2.1=i/\i<=l.length/\n=l.length-i/\∀a b,a<b->b<i->QC d.lv z.1 b<=QC d.lv z.1 a,⟨_,rfl,List.Perm.refl _,0,rfl,aa _,rfl,λa b _ hb=>qG hb (cf b)⟩,?_⟩⟩;rintro n ⟨s,i0,_⟩ H' ⟨rfl,L,i,T,Y,hn0,hs⟩;have L:s.Perm l:=L;have T:i0=(i:Int):=T;have hs:∀a b,a<b->b<i->QC d.lv s b<=QC d.lv s a:=hs;subst T;have hsl:s.length=l.length:=L.length_eq;refine⟨λy=>?_,λy _=>?_⟩
 .have P:i<l.length:=by grind
  refine⟨λn1 z w=>w=H'/\z.1.Perm l/\∃k:Nat,z.2.1=k/\k<=i/\n1=k/\Srt d.lv z.1 (i+1) k,⟨i,rfl,L,i,rfl,an _,rfl,λa b hab hb ha hbk=>hs a b hab (by omega),λb h1 h2=>by omega⟩,?_⟩;rintro n1 ⟨u,k0,_⟩ w ⟨rfl,C,k,U,hk,hn1,hS⟩;have C:u.Perm l:=C;have U:k0=(k:Int):=U;have hS:Srt d.lv u (i+1) k:=hS;subst U;have hsl1:u.length=l.length:=C.length_eq;have nxt:(k=0∨QC d.lv u k<=QC d.lv u (k-1))->Bn .i64 (i:Int)->Bn .i64 ((i:Int)+1)/\∃m,m<n/\(w=w/\u.Perm l/\∃i':Nat,(i:Int)+1=i'/\i'<=l.length/\m=l.length-i'/\∀a b,a<b->b<i'->QC d.lv u b<=QC d.lv u a):=λh0 _=>
   ⟨A7.2 (by omega),l.length-(i+1),by omega,rfl,C,i+1,rfl,by omega,rfl,hS.done hk h0⟩
  refine⟨λG _=>?_,λG=>Sf (nxt (.inl ?_))⟩
  .have hkp':0<k:=by have G:(0:Int)<(k:Int):=G;omega
   have f:k<u.length:=by omega
   have g:k-1<u.length:=by omega
   have t1:((k:Int)-1).toNat=k-1:=by omega
   have t0:((k:Int)).toNat=k:=by omega
   have ik:Bn .i64 ((k:Int)-1):=A7.2 (by omega);have ek:(k:Int)-1=((k-1:Nat):Int):=by omega
   have sw:Df d.S.lv (u[k-1]'g).Var<Df d.S.lv (u[k]'f).Var->Bn .i64 (k:Int)->Bn .i64 ((k:Int)-1)/\∃m,m<n1/\(w=w/\((u.set (k-1) (u[k]'f)).set k (u[k-1]'g)).Perm l/\∃k':Nat,(k:Int)-1=k'/\k'<=i/\m=k'/\Srt d.lv ((u.set (k-1) (u[k]'f)).set k (u[k-1]'g)) (i+1) k'):=λE _=>
    ⟨ik,k-1,by rw[hn1];omega,rfl,(List.set_set_perm g f).trans C,k-1,ek,c6 (Nat.sub_le k 1) hk,rfl,hS.step hkp' hk (by show i<u.length;omega) (by rw[FW f,FW g];exact E)⟩
   have no:¬Df d.S.lv (u[k-1]'g).Var<Df d.S.lv (u[k]'f).Var->k=0∨QC d.lv u k<=QC d.lv u (k-1):=λh=>.inr (by rw[FW f,FW g];exact Int.not_lt.1 h);simp only[t0,t1,List.length_set];refine⟨ik,λ_=>⟨λ_=>by omega,g,g,λ_=>⟨λ_=>by omega,f,G5 cx ⟨f,G5 cx ⟨λE _=>⟨ik,λ_=>⟨λ_=>by omega,f,f,λ_=>⟨ik,λ_=>⟨λ_=>by omega,g,g,λ_=>⟨λ_=>by omega,g,g,λ_=>⟨λ_=>by omega,f,f,sw E⟩⟩⟩⟩⟩⟩,λV=>nxt (no V)⟩⟩,f,G5 cx (G5 cx ⟨λE _=>⟨ik,λ_=>⟨λ_=>by omega,f,f,λ_=>⟨ik,λ_=>⟨λ_=>by omega,g,g,λ_=>⟨λ_=>by omega,g,g,λ_=>⟨λ_=>by omega,f,f,sw E⟩⟩⟩⟩⟩⟩,λV=>nxt (no V)⟩)⟩⟩⟩
  omega
 .have P:i=l.length:=by have y:¬(i:Int)<(l.length:Int):=y;omega
  subst P;have hd':(s.map (·.Var)).Nodup:=(L.map _).nodup_iff.2 hd;have Z:∀t∈s,0<=t.Var/\t.Var<d.S.n:=λt ht=>by rw[nn];exact hv t (L.mem_iff.1 ht)
  have hst:∀a b,a<b->b<s.length->QC d.lv s b<QC d.lv s a:=λa b hab hb=>by
   have h1:=hs a b hab (by omega);rw[FW hb,FW (by omega:a<s.length)]at h1 ⊢;have hne:d.lv s[b].Var≠d.lv (s[a]'(by omega)).Var:=λe=>by
    have va:=Z _ (ae (by omega:a<s.length));have vb:=Z _ (ae hb);have:=iI.si.BS.od.inj _ _ vb.1 vb.2 va.1 va.2 e;have h2:(s.map (·.Var))[b]'(by simpa using hb)=(s.map (·.Var))[a]'(by simp;omega):=by simpa using this
    have:=(ay hd').1 h2;omega
   omega
  have hF:DQ s=DQ l:=Aeo L;refine⟨λn z w=>z.2.1=s/\n=s.length-z.2.2.1/\z.2.2.1<=s.length/\∃o,MD w c b o/\MC d o/\PI d o [DQ l]/\J7 b d H' w/\o.ws=d.ws/\o.At (match s[z.2.2.1-1]? with|some t=>if z.2.2.1=0 then o.S.n else o.lv t.Var|none=>o.S.n) z.1/\B.den o.T z.1=DQ (s.take z.2.2.1),⟨_,rfl,rfl,aa _,d,cx,MC.refl iI.si iV,PI.refl,J7.refl,rfl,?_,?_⟩,?_⟩
  .have:(match s[0-1]? with|some t=>if (0:Nat)=0 then d.S.n else d.lv t.Var|none=>d.S.n)=d.S.n:=by split<;>rfl
   show d.At (match s[0-1]? with|some t=>if (0:Nat)=0 then d.S.n else d.lv t.Var|none=>d.S.n) 0;rw[this];exact Z7 (ce _)
  .show B.den d.T 0=DQ (s.take 0);rw[B.HU];funext a;rfl
  rintro n2 ⟨r,p,j,_⟩ H2 ⟨e2,hn2,hj0,o,cx2,v,I,f2,w2,a2,d2⟩;have e2:p=s:=e2;subst e2;have hn2:n2=p.length-j:=hn2;have hj:j<=p.length:=hj0;replace a2:o.At (match p[j-1]? with|some t=>if j=0 then o.S.n else o.lv t.Var|none=>o.S.n) r:=a2;replace d2:B.den o.T r=DQ (p.take j):=d2;obtain⟨i2,kp2⟩:=v.kp iI (by rw[w2];exact an _);refine⟨λhjl _=>?_,λhjl=>?_⟩
  .have q:j<p.length:=hjl;have hv2:=Z _ (ae q);have S:0<=p[j].Var/\p[j].Var<o.S.n:=by rw[v.n];exact hv2
   have D:=(i2.si.BS.od.Mp _ S.1 S.2).2;have hlow:o.lv p[j].Var+1<=(match p[j-1]? with|some t=>if j=0 then o.S.n else o.lv t.Var|none=>o.S.n):=by
    by_cases h0:j=0
    .subst h0;split
     .exact D
     .exact D
    .have hj1:j-1<p.length:=by omega
     rw[a7 hj1];simp only[h0,if_false];have:=hst (j-1) j (by omega) q;rw[FW q,FW hj1]at this;rw[v.lv];omega
   have hAt:o.At (o.lv p[j].Var+1) r:=⟨a2.1,cj hlow a2.2⟩
   have O:o.At (o.lv p[j].Var+1) 1:=at_one D;have key:∀lo Y:Int,((p[j].Ss=true/\lo=1/\Y=r)∨(¬p[j].Ss=true/\lo=r/\Y=1))->qK E2 DN (some c,p[j].Var,lo,Y,()) H2 (λ(b_1:Int×Unit)(_:Unit)(H3:HY)=>j+1<=9223372036854775807/\∃m,m<n2/\(p=p/\m=p.length-(j+1)/\j+1<=p.length/\∃x,MD H3 c b x/\MC d x/\PI d x [DQ l]/\J7 b d H' H3/\x.ws=d.ws/\x.At (match p[(j+1)-1]? with|some t=>if j+1=0 then x.S.n else x.lv t.Var|none=>x.S.n) b_1.1/\B.den x.T b_1.1=DQ (p.take (j+1)))) X':=λlo Y hc=>by
    have R:(λa:B.As=>if a p[j].Var=true then B.den o.T Y a else B.den o.T lo a)=DQ (p.take (j+1)):=by
     rw[<-Aen q d2];funext a;rcases hc with ⟨J,rfl,rfl⟩|⟨J,rfl,rfl⟩
     .simp only[J,if_true];rw[B.EW]
     .have J:p[j].Ss=false:=by simpa using J
      simp only[J];rw[B.EW];simp
    have N:o.At (o.lv p[j].Var+1) lo/\o.At (o.lv p[j].Var+1) Y:=by
     rcases hc with ⟨_,rfl,rfl⟩|⟨_,rfl,rfl⟩
     .exact⟨O,hAt⟩
     .exact⟨hAt,O⟩
    refine XV (F:=DQ l) cx2 i2.si v.mv S N.1 N.2 ?_ (λx H3 lf W K A f3 L=>?_) λe x H3 W K A f3 w3 a3 d3=>⟨by show j+1<=_;omega,p.length-(j+1),by omega,rfl,rfl,by omega,x,W,v.trans K,I.trans (A.l (ad.2 rfl)),f2.trans f3 v.bs,w3.trans w2,?_,?_⟩
    .rw[R,<-hF,v.lv];exact Ajn hd' q hst
    .exact hpan x H3 lf W (v.trans K) (I.trans (A.l (ad.2 rfl))) (f2.trans f3 v.bs) (L.step w2)
    .rw[Nat.add_sub_cancel,a7 q];simp only[Nat.succ_ne_zero,if_false];rw[K.lv];exact a3
    .exact d3.trans R
   exact⟨q,q,λJ=>key 1 r (.inl ⟨J,rfl,rfl⟩),λJ=>key r 1 (.inr ⟨J,rfl,rfl⟩)⟩
  .have q:¬j<p.length:=hjl;have:j=p.length:=by omega
   subst this;rw[cc]at d2;exact hfin r o H2 cx2 v I f2 w2 a2.1 (d2.trans hF)
section
set_option maxRecDepth 100000
set_option maxHeartbeats 2000000
def Tt(w:Option Nat)(h e:Int)(H:HY)(Q:Int×UT->UU)(X:PX):=∃(b:Nat),w=some b/\∃(x:Al),H b=some (Ob.st BJ x)/\(¬x.e=0->(e=0->{x with l:={Aa:=x.l.Aa,Bits:=x.l.Bits,At:=x.l.At:Ac}}=x/\qK FC E7 (x.m,[h],()) H (λ(_:Int×UT)_ G=>Q (0,()) () G) X)/\(¬e=0->{x with l:={Aa:=x.l.Aa,Bits:=x.l.Bits,At:=x.l.At:Ac}}=x/\Q (0,()) () H))/\(¬¬x.e=0->(¬e=0->Q (0,()) () (Ab H b (Ob.st BJ {x with l:={Aa:=x.l.Aa,Bits:=x.l.Bits,At:=x.l.At:Ac},e:=e})))/\(¬¬e=0->Q (h,()) () (Ab H b (Ob.st BJ {x with l:={Aa:=x.l.Aa,Bits:=x.l.Bits,At:=x.l.At:Ac},live:=BR x.live h true,e:=e}))))
theorem Ts w h e H Q X(h_:Tt w h e H Q X):qK AJ AD (w,h,e,()) H Q X:=wF Tryz.f54 {} h_
def Aj9(v:Ar)(H:HY)(Q:Int×Int×UT->UU)(_:PX):=(v.Bool->Q (0,1,()) () H)/\(¬v.Bool->Q (v.Lo,v.Hi,()) () H)
theorem Apq v H Q X(h_:Aj9 v H Q X):qK IY Gu (v,()) H Q X:=wF Tryz.f133 {im:=[1]} h_
end
section
structure WK(H:HY)(wb b:Nat)(M0 M:Mn)(L:Ac)(lv:List (Int×Bool)):Prop where
 ob:H wb=some (.st BJ ({m:=some b,l:=L,live:=lv,e:=0}:Al))
 mg:MG H b M
 bs:Dx M0 M
 n0:2<=M0.nx
 nx:M0.nx<=M.nx
 nd:N9 lv
 tr:∀p∈lv,p.2=true
 lo:∀h,h<M0.nx->M.Aq h=M0.Aq h/\Ad lv h=none
 hi:∀h,M0.nx<=h->((Ad lv h).isSome=true↔M.Aq h≠none)
 ln:M.hs.length=M0.hs.length+lv.length
def QK(wb b:Nat)(M:Mn)(H H':HY):Prop:=∀c,H c≠none->c≠wb->Fb b M c->H' c=H c
variable {wb b:Nat} {M:Mn} {H:HY}
theorem QK.refl:QK wb b M H H:=λ_ _ _ _=>rfl
variable {H':HY}
theorem QK.trans{H'':HY}(h:QK wb b M H H')(k:QK wb b M H' H''):QK wb b M H H'':=λc d a f=>by have e:=h c d a f;rw[k c (by grind) a f,e]
theorem Jd.w(f:Jd b M H H'):QK wb b M H H':=λ_ a _ n=>f.at a n
theorem QK.same{wb b:Nat}{M M':Mn}{H H':HY}(f:QK wb b M' H H')(e:Dx M M'):QK wb b M H H':=λc d a n=>f c d a (n.same e)
variable {c:Nat} {M':Mn}
theorem Fb.back(h:Fb b M' c)(e:Dx M M'):Fb b M c:=⟨h.b,by rw[<-e.mb];exact h.mb,by rw[<-e.sb];exact h.sb,by rw[<-e.bl];exact h.bl,by rw[<-e.bp];exact h.bp,by rw[<-e.tb];exact h.tb⟩
theorem MG.notM{m:Nat}{x:Y0.O m}(h:MG H b M)(a:H c=some (.st m x))(f:m≠CP)(n:m≠BX)(l:m≠A8)(k:m≠CG)(g:m≠CL)(j:m≠BK):Fb b M c:=by refine⟨Bg a h.h.ob f,Bg a h.h.me n,Bg a h.h.st.st l,Bg a h.h.st.lv k,Bg a h.h.st.po g,λd=>?_⟩;obtain⟨v,i,e⟩:=ab.1 d;exact Bg a (h.h.st.ta v i) j e.symm
theorem MG.set{m:Nat}{x:Y0.O m}{y:Ob Y0}(h:MG H b M)(a:H c=some (.st m x))(n:Fb b M c):MG (Ab H c y) b M:=⟨h.h.other n a,h.i,h.v,h.e,h.n8,h.rm⟩
variable {M0:Mn} {L:Ac} {lv:List (Int×Bool)}
theorem WK.wn(h:WK H wb b M0 M L lv):Fb b M wb:=h.mg.notM h.ob (by decide) (by decide) (by decide) (by decide) (by decide) (by decide)
theorem WK.live(h:WK H wb b M0 M L lv){g:Int}(a:(Ad lv g).isSome=true):M0.nx<=g/\g<M.nx/\1<g/\∃F,M.Aq g=some F:=by
 have c:M0.nx<=g:=by refine ar λj=>?_;rw[(h.lo g (by omega)).2]at a;cases a
 have i:=(h.hi g c).1 a;cases e:M.Aq g with
 |none=>grind
 |some F=>
  obtain⟨x,f,_⟩:=Mn.Es e;have d:=h.mg.i.ok g x f;refine⟨c,d.2.2,?_,F,rfl⟩;have:=h.n0;omega
theorem T5{F:B.Fn}{X:PX}{Q:Int×Unit->UU}(w:WK H wb b M0 M L lv)(g:MG H' b M')(d:Uz M M' F)(f:Jd b M H H')(h:∀H'',WK H'' wb b M0 M' L (BR lv M.nx true)->Ad lv M.nx=none->QK wb b M H H''->Q (M.nx,()) () H''):qK AJ AD (some wb,M.nx,0,()) H' Q X:=by
 refine Ts _ _ _ _ _ _ ?_;have j:H' wb=some (.st BJ ({m:=some b,l:=L,live:=lv,e:=0}:Al)):=by rw[f.at (by rw[w.ob];simp) w.wn];exact w.ob
 have a:Ad lv M.nx=none:=by
  cases e:Ad lv M.nx with
  |none=>rfl
  |some t=>
   have s:=(w.hi M.nx w.nx).1 (by grind);refine qG (Mn.Mr.2 ?_) s;cases q:Ad M.hs M.nx with
   |none=>rfl
   |some x=>have:=(w.mg.i.ok _ _ q).2.2;omega
 refine⟨wb,rfl,_,j,λh=>qG rfl h,λ_=>⟨λh=>qG rfl h,λ_=>?_⟩⟩;have o:Fb b M' wb:=w.wn.same d.bs;refine h _ ⟨Ai _ _ _,g.set j o,w.bs.trans d.bs,w.n0,by rw[d.nx];have:=w.nx;omega,JI w.nd _ _,λp u=>(Vl u).elim (w.tr p) id,λk n=>?_,λk n=>?_,?_⟩ a (f.w.trans λc _ r _=>Ag _ _ r)
 .have i:k≠M.nx:=by have:=w.nx;omega
  rw[d.Aq,GT i,Cw,GT i];exact w.lo k n
 .rw[d.Aq,Cw];split
  .simp
  .exact w.hi k n
 .rw[d.ln,Lg a,w.ln];omega
theorem WK.gone{g:Int}(w:WK H wb b M0 M L lv)(j:(Ad lv g).isSome=true)(g':MG H' b M')(d:A1m M M' g)(n:H' wb=some (.st BJ ({m:=some b,l:=L,live:=Db lv g,e:=0}:Al))):WK H' wb b M0 M' L (Db lv g)/\(Db lv g).length+1=lv.length:=by
 have s:=w.live j;have a:∀{m:List (Int×Bool)},(Ad m g).isSome=true->(Db m g).length+1=m.length:=by
  intro m;induction m with
  |nil=>intro h;cases h
  |cons p m o=>
   intro h;unfold Db;split;all_goals simp_all[Ad,bk]
 have r:∀{m:List (Int×Bool)}{p:Int×Bool},p∈Db m g->p∈m:=by
  intro m;induction m with
  |nil=>intro p h;exact h
  |cons q m o=>
   grind[Db]
 refine⟨⟨n,g',w.bs.trans d.bs,w.n0,by rw[d.nx];omega,RB w.nd _,λp f=>w.tr p (r f),λk i=>?_,λk i=>?_,?_⟩,a j⟩
 .have c:k≠g:=by omega
  rw[d.Aq,GT c,It w.nd,GT c];exact w.lo k i
 .rw[d.Aq,It w.nd];split
  .simp
  .exact w.hi k i
 .have:=d.ln;have:=a j;have:=w.ln;omega
theorem QV{l:List Int}{X:PX}{Q:Unit->UU}(w:WK H wb b M0 M L lv)(hn:M.nx<576460752303423487)(hll:l.length<=1000000)(h:∀M' lv' H',WK H' wb b M0 M' L lv'->M'.nx=M.nx->(∀k,Ad lv' k=if k∈l then none else Ad lv k)->(∀k,M'.Aq k=if k∈l/\(Ad lv k).isSome=true then none else M.Aq k)->lv'.length<=lv.length->(l.Nodup->(∀k∈l,(Ad lv k).isSome=true)->lv'.length+l.length=lv.length)->QK wb b M H H'->Q () () H'):qK Ap Ao (some wb,l,()) H Q X:=by
 refine wF Tryz.f128 {lp:=[(1,⟨[(8,.nat)],[0,6,7],true⟩)]} (?_:l.length<=2^63-1->∃(V:Nat->Nat×UT->HP),(∃(n:Nat),V n (0,()) H)/\∀n x H,V n x H->(x.1<l.length->x.1<=2^63-1->∃(h:x.1<l.length),∃(b:Nat),(some wb)=some b/\∃(x1:Al),H b=some (Ob.st BJ x1)/\((Ad x1.live l[x.1]).getD false->qK FC E7 (x1.m,[l[x.1]],()) (Ab H b (Ob.st BJ {x1 with l:={Aa:=x1.l.Aa,Bits:=x1.l.Bits,At:=x1.l.At:Ac},live:=Db x1.live l[x.1]})) (λ(b:Int×UT)_ G=>x.1+1<=2^63-1/\∃m,m<n/\V m (x.1+1,()) G) X)/\(¬(Ad x1.live l[x.1]).getD false->x.1+1<=2^63-1/\∃m,m<n/\{x1 with l:={Aa:=x1.l.Aa,Bits:=x1.l.Bits,At:=x1.l.At:Ac}}=x1/\V m (x.1+1,()) H))/\(¬x.1<l.length->Q () () H));refine λ_=>⟨λn z H'=>n=l.length-z.1/\z.1<=l.length/\∃M' lv',WK H' wb b M0 M' L lv'/\Dx M M'/\M'.nx=M.nx/\(∀k,Ad lv' k=if k∈l.take z.1 then none else Ad lv k)/\(∀k,M'.Aq k=if k∈l.take z.1/\(Ad lv k).isSome=true then none else M.Aq k)/\lv'.length<=lv.length/\(l.Nodup->(∀k∈l,(Ad lv k).isSome=true)->lv'.length+z.1=lv.length)/\QK wb b M H H',⟨_,rfl,aa _,M,lv,w,.refl,rfl,λk=>by simp,λk=>by simp,an _,λ_ _=>rfl,QK.refl⟩,?_⟩
 rintro n ⟨j,_⟩ H' ⟨G,I,M',lv',o,P,R,s,C,J,u,f⟩;have hnj:n=l.length-j:=G;have hj:j<=l.length:=I;replace s:∀k,Ad lv' k=if k∈l.take j then none else Ad lv k:=s
 replace C:∀k,M'.Aq k=if k∈l.take j/\(Ad lv k).isSome=true then none else M.Aq k:=C
 replace u:l.Nodup->(∀k∈l,(Ad lv k).isSome=true)->lv'.length+j=lv.length:=u;refine⟨λA _=>?_,λA=>?_⟩
 .have i:j<l.length:=A;have p:∀k,k∈l.take (j+1)↔k∈l.take j∨k=l[j]:=λk=>by rw[a8 i,aj,ad]
  refine⟨i,wb,rfl,_,o.ob,λd=>?_,λd=>⟨by show j+1<=_;omega,l.length-(j+1),by omega,rfl,rfl,by show j+1<=_;omega,M',lv',o,P,R,λk=>?_,λk=>?_,J,λx r=>?_,f⟩⟩
  .have d:(Ad lv' l[j]).getD false=true:=d;have D:(Ad lv' l[j]).isSome=true:=by
    cases e:Ad lv' l[j] with
    |none=>rw[e]at d;cases d
    |some t=>rfl
   obtain⟨g1,g2,g3,F,hF⟩:=o.live D;refine RE (M:=M') (o.mg.set o.ob o.wn) (by omega) g3 hF λZ H2 e S N U=>?_;have E:H2 wb=some (.st BJ ({m:=some b,l:=L,live:=Db lv' l[j],e:=0}:Al)):=by rw[U.at (by rw[Ai];simp) o.wn,Ai]
   obtain⟨W,T⟩:=o.gone D S N E;have v:l[j]∉l.take j:=λa=>by have:=s l[j];rw[UV a]at this;rw[this]at D;cases D
   have O:(Ad lv l[j]).isSome=true:=by have:=s l[j];rw[GT v]at this;rw[<-this];exact D
   refine⟨by show j+1<=_;omega,l.length-(j+1),by omega,rfl,by show j+1<=_;omega,Z,_,W,P.trans N.bs,N.nx.trans R,λk=>?_,λk=>?_,by omega,λx r=>?_,(f.trans λc _ a1 _=>Ag _ _ a1).trans (U.w.same P)⟩
   .show _=if k∈l.take (j+1) then none else Ad lv k
    rw[It o.nd,s];by_cases g:k=l[j]
    .rw[UV g,UV ((p k).2 (.inr g))]
    .rw[GT g];by_cases a:k∈l.take j
     .rw[UV a,UV ((p k).2 (.inl a))]
     .rw[GT a,GT λh=>((p k).1 h).elim a g]
   .show _=if k∈l.take (j+1)/\(Ad lv k).isSome=true then none else M.Aq k
    rw[N.Aq,C];by_cases g:k=l[j]
    .rw[UV g,UV ⟨(p k).2 (.inr g),by rw[g];exact O⟩]
    .rw[GT g];by_cases a:k∈l.take j
     .have:=(p k).2 (.inl a);simp only[a,this]
     .have:¬k∈l.take (j+1):=λh=>((p k).1 h).elim a g;simp only[a,this]
   .have:=u x r;show (Db lv' l[j]).length+(j+1)=lv.length;omega
  .have y:Ad lv' l[j]=none:=by
    cases e:Ad lv' l[j] with
    |none=>rfl
    |some t=>
     have:=o.tr _ (II e);simp only at this;subst this;have d:¬(Ad lv' l[j]).getD false=true:=d;rw[e]at d;exact qG rfl d
   show _=if k∈l.take (j+1) then none else Ad lv k
   rw[s];by_cases g:k=l[j]
   .subst g;have:=s l[j];rw[y]at this;rw[UV ((p _).2 (.inr rfl)),<-this]
   .by_cases a:k∈l.take j
    .rw[UV a,UV ((p k).2 (.inl a))]
    .rw[GT a,GT λh=>((p k).1 h).elim a g]
  .have y:Ad lv' l[j]=none:=by
    cases e:Ad lv' l[j] with
    |none=>rfl
    |some t=>
     have:=o.tr _ (II e);simp only at this;subst this;have d:¬(Ad lv' l[j]).getD false=true:=d;rw[e]at d;exact qG rfl d
   show _=if k∈l.take (j+1)/\(Ad lv k).isSome=true then none else M.Aq k
   rw[C];by_cases g:k=l[j]
   .subst g;have B:=s l[j];rw[y]at B;by_cases a:l[j]∈l.take j
    .have:=(p l[j]).2 (.inl a);simp only[a,this]
    .rw[GT a]at B;rw[GT (λh=>a h.1),GT (λh=>by rw[<-B]at h;cases h.2)]
   .by_cases a:k∈l.take j
    .have:=(p k).2 (.inl a);simp only[a,this]
    .have:¬k∈l.take (j+1):=λh=>((p k).1 h).elim a g;simp only[a,this]
  .exfalso;have v:l[j]∉l.take j:=λa=>by obtain⟨q,Y,e⟩:=ab.1 a;rw[List.length_take]at Y;rw[List.getElem_take]at e;have:=(ay x).1 e;omega
   have B:=s l[j];rw[GT v]at B;have V:=r l[j] (ae i);rw[<-B]at V;obtain⟨t,K⟩:=bi.1 V;have:=o.tr _ (II K);simp only at this;subst this;have d:¬(Ad lv' l[j]).getD false=true:=d;rw[K]at d;exact d rfl
 .have i:¬j<l.length:=A;have:j=l.length:=by omega
  subst this;rw[cc]at s C;exact h M' lv' H' o R s C J u f
end
section
structure Used(M M':Mn)(lv lv':List (Int×Bool))(l:List Int)(F:B.Fn):Prop where
 nx:M'.nx=M.nx+1
 get:∀k,Ad lv' k=if k=M.nx then some true else if k∈l then none else Ad lv k
 Aq:∀k,M'.Aq k=if k=M.nx then some F else if k∈l/\(Ad lv k).isSome=true then none else M.Aq k
 le:lv'.length<=lv.length+1
 len:l.Nodup->(∀k∈l,(Ad lv k).isSome=true)->lv'.length+l.length=lv.length+1
variable {H:HY} {wb b:Nat} {M0 M:Mn} {L:Ac} {lv:List (Int×Bool)} {F:B.Fn}
theorem WK.lt(w:WK H wb b M0 M L lv){k:Int}(hF:M.Aq k=some F):k<M.nx:=by obtain⟨e,a,_⟩:=Mn.Es hF;exact(w.mg.i.ok k e a).2.2
theorem WK.nl(w:WK H wb b M0 M L lv){k:Int}(c:M.nx<=k):Ad lv k=none/\M.Aq k=none:=by
 have a:M.Aq k=none:=by
  cases e:M.Aq k with
  |none=>rfl
  |some F=>have:=w.lt e;omega
 refine⟨?_,a⟩;cases e:Ad lv k with
 |none=>rfl
 |some t=>exact qG a ((w.hi k (by have:=w.nx;omega)).1 (by grind))
def DoS(b:Nat)(M:Mn)(H:HY)(l:List Int)(F:B.Fn)(J3:FT Y0 [.ptr,.sl I6] [.int .i64,.int .i64]):Prop:=∀(Q:Int×Int×Unit->HP)(X:PX),(∀M' H',MG H' b M'->Uz M M' F->Jd b M H H'->Q (M.nx,0,()) H')->J3 (some b,l,()) H Q X
variable {X:PX} {Q:Int×Unit->UU}
theorem NI{J3:FT Y0 [.ptr,.sl I6] [.int .i64,.int .i64]}{l:List Int}(w:WK H wb b M0 M L lv)(J:M.nx<576460752303423486)(q:l.length<=1000000)(f:∀k∈l,k<M.nx)(m:DoS b M H l F J3)(h:∀M' lv' H',WK H' wb b M0 M' L lv'->Dx M M'->Used M M' lv lv' l F->QK wb b M H H'->Q (M.nx,()) () H'):qK Bk AY (some wb,J3,l,()) H Q X:=by
 refine wF Tryz.f56 {} (?_:∃(b:Nat),(some wb)=some b/\∃(x:Al),H b=some (Ob.st BJ x)/\(¬x.e=0->{x with l:={Aa:=x.l.Aa,Bits:=x.l.Bits,At:=x.l.At:Ac}}=x/\Q (0,()) () H)/\(¬¬x.e=0->{x with l:={Aa:=x.l.Aa,Bits:=x.l.Bits,At:=x.l.At:Ac}}=x/\J3 (x.m,l,()) H (λ(b:Int×Int×UT)(G:HY)=>qK AJ AD ((some wb),b.1,b.2.1,()) G (λ(b:Int×UT)_ G=>qK Ap Ao ((some wb),l,()) G (λ(b1 io:UT)(G:HY)=>Q (b.1,()) () G) X) X) X));refine⟨wb,rfl,_,w.ob,λh=>qG rfl h,λ_=>⟨rfl,m _ _ λK I C g u=>?_⟩⟩;refine T5 w C g u λN E e D=>?_;refine QV E (by rw[g.nx];omega) q λx s y t n d c A o z=>?_;have v:(BR lv M.nx true).length=lv.length+1:=Lg e;refine h x s y t ?_ ⟨n.trans g.nx,λk=>?_,λk=>?_,by omega,λr i=>?_⟩ (D.trans (z.same g.bs))
 .have d:=w.bs;have c:=t.bs;exact⟨c.sb.trans d.sb.symm,c.mb.trans d.mb.symm,c.bl.trans d.bl.symm,c.bp.trans d.bp.symm,c.tb.trans d.tb.symm⟩
 .grind[Cw]
 .rw[c,g.Aq,Cw];grind
 grind[Cw]
theorem L2{M':Mn}{H':HY}(w:WK H wb b M0 M L lv)(g:MG H' b M')(c:Uz M M' F)(f:Jd b M H H')(h:∀lv' H'',WK H'' wb b M0 M' L lv'->Dx M M'->Used M M' lv lv' [] F->QK wb b M H H''->Q (M.nx,()) () H''):qK AJ AD (some wb,M.nx,0,()) H' Q X:=by
 refine T5 w g c f λH'' e a d=>h _ H'' e c.bs ⟨c.nx,λk=>?_,λk=>?_,by grind[Lg],λ_ _=>by grind[Lg]⟩ d
 .grind[Cw]
 .rw[c.Aq];simp
theorem SA{yes:Bool}(w:WK H wb b M0 M L lv)(m:M.nx<576460752303423486)(h:∀M' lv' H',WK H' wb b M0 M' L lv'->Dx M M'->Used M M' lv lv' [] (λ_=>yes)->QK wb b M H H'->Q (M.nx,()) () H'):qK BN B8 (some wb,yes,()) H Q X:=by
 refine wF Tryz.f59 {} (?_:∃(b:Nat),(some wb)=some b/\∃(x:Al),H b=some (Ob.st BJ x)/\({x with l:={Aa:=x.l.Aa,Bits:=x.l.Bits,At:=x.l.At:Ac}}=x/\qK Lr IG (x.m,yes,()) H (λ(b:Int×UT)_ G=>qK HL FB (x.m,b.1,()) G (λ(b:Int×Int×UT)_ G=>qK AJ AD ((some wb),b.1,b.2.1,()) G (λ(b:Int×UT)_ G=>Q (b.1,()) () G) X) X) X)/\{x with l:={Aa:=x.l.Aa,Bits:=x.l.Bits,At:=x.l.At:Ac}}=x/\qK Lr IG (x.m,yes,()) H (λ(b1:Int×UT)_ G=>∃(x:Al),G b=some (Ob.st BJ x)/\{x with l:={Aa:=x.l.Aa,Bits:=x.l.Bits,At:=x.l.At:Ac}}=x/\qK HL FB (x.m,b1.1,()) G (λ(b:Int×Int×UT)_ G=>qK AJ AD ((some wb),b.1,b.2.1,()) G (λ(b:Int×UT)_ G=>Q (b.1,()) () G) X) X) X);have k:M.Aq (if yes=true then 1 else 0)=some (λ_=>yes):=by
  cases yes
  .exact w.mg.i.Aa7
  .exact w.mg.i.Atw
 have a:qK HL FB (some b,(if yes=true then 1 else 0),()) H (λ(c:Int×Int×Unit)_ H'=>qK AJ AD (some wb,c.1,c.2.1,()) H' (λ(b:Int×Unit)_ H'=>Q (b.1,()) () H') X) X:=
  Zh w.mg (by omega) k λM' H' g e f=>L2 w g e f λlv' d l j u i=>h M' lv' d l j u i
 exact⟨wb,rfl,_,w.ob,⟨rfl,RF a⟩,rfl,RF ⟨_,w.ob,rfl,a⟩⟩
end
section
def D0(l:List Int)(k:Nat):Int:=(l.take k).foldl (·+·) 0
theorem Eo{l:List Int}{k:Nat}(h:k<l.length):D0 l (k+1)=D0 l k+l[k]:=by unfold D0;rw[a8 h,c8];rfl
structure Jf(L:Ac):Prop where
 lb:L.Bits.length=L.Aa.length
 la:L.At.length=L.Aa.length
 ln:L.Aa.length<=64
 b0:∀i(h:i<L.Bits.length),0<=L.Bits[i]/\L.Bits[i]<=30
 at_:∀i(h:i<L.At.length),L.At[i]=D0 L.Bits i
variable {L:Ac}
theorem Jf.sum(h:Jf L):∀{k:Nat},k<=L.Bits.length->0<=D0 L.Bits k/\D0 L.Bits k<=30*k
 |0,_=>by simp [D0]
 |k+1,a=>by have:=h.sum (k:=k) (by omega);have:=h.b0 k (by omega);grind[Eo]
theorem Jf.NP(h:Jf L){j:Nat}:∀{k:Nat},j<=k->k<=L.Bits.length->D0 L.Bits j<=D0 L.Bits k
 |0,a,_=>by grind
 |k+1,a,b=>by
  by_cases e:j=k+1
  .grind
  .have:=h.NP (j:=j) (k:=k) (by omega) (by omega);have:=h.b0 k (by omega);grind[Eo]
def CR(L:Ac):Int:=D0 L.Bits L.Bits.length
variable {H:HY} {X:PX}
theorem Sd{Q:Int×Unit->UU}(f:Jf L)(h:Q (CR L,()) () H):qK Ik Fo (L,()) H Q X:=by
 refine wF Tryz.f89 {lp:=[(3,⟨[(3,.one (.dat I6)),(9,.nat)],[7,8],false⟩)],im:=[1]} (?_:L.Bits.length<=2^63-1->∃(V:Nat->Int×Nat×UT->Prop),(∃(n:Nat),H=H/\V n (0,0,()))/\∀n x,V n x->(x.2.1<L.Bits.length->x.2.1<=2^63-1->∃(h:x.2.1<L.Bits.length),IK x.1->IK L.Bits[x.2.1]->IK (x.1+L.Bits[x.2.1])/\x.2.1+1<=2^63-1/\∃m,m<n/\H=H/\V m (x.1+L.Bits[x.2.1],x.2.1+1,()))/\(¬x.2.1<L.Bits.length->Q (x.1,()) () H));have i:=f.ln;have j:=f.lb;refine λ_=>⟨λn z=>n=L.Bits.length-z.2.1/\z.2.1<=L.Bits.length/\z.1=D0 L.Bits z.2.1,⟨_,rfl,rfl,aa _,rfl⟩,?_⟩
 rintro n ⟨s,k,_⟩ ⟨e,d,c⟩;have p:n=L.Bits.length-k:=e;have l:k<=L.Bits.length:=d;have g:s=D0 L.Bits k:=c;subst g;refine⟨λb _=>?_,λb=>?_⟩
 .have a:k<L.Bits.length:=b;have o:=f.sum l;have m:=f.b0 k a;exact⟨a,λ_ _=>⟨A7.2 (by grind),by grind,L.Bits.length-(k+1),by omega,rfl,rfl,by grind,(Eo a).symm⟩⟩
 .have a:¬k<L.Bits.length:=b;have:k=L.Bits.length:=by omega
  subst this;exact h
def Mq(L:Ac)(i:Nat):List Int:=(am ((L.Bits[i]?).getD 0).toNat).map λ(k:Nat)=>2*((L.At[i]?).getD 0+(k:Int))
variable {i:Nat}
theorem QH{Q:List Int×Unit->UU}(d:Jf L)(hi:i<L.Aa.length)(h:Q (Mq L i,()) () H):qK GV ET (L,(i:Int),()) H Q X:=by
 refine wF Tryz.f123 {lp:=[(5,⟨[(5,.one (.own I6)),(21,.nat)],[1,2,20],false⟩)],im:=[2]} (?_:((i:Int)<0->Q ([],()) () H)/\(¬(i:Int)<0->L.Bits.length<=2^63-1->((↑L.Bits.length:Int)<=(i:Int)->Q ([],()) () H)/\(¬(↑L.Bits.length:Int)<=(i:Int)->IK (i:Int)->(IK (i:Int)->0<=(i:Int))/\∃(h:(i:Int).toNat<L.Bits.length),∃(V:Nat->List Int×Nat×UT->Prop),(∃(n:Nat),H=H/\V n ([],0,()))/\∀n x,V n x->((↑x.2.1:Int)<L.Bits[(i:Int).toNat]->IK (i:Int)->(IK (i:Int)->0<=(i:Int))/\∃(h:(i:Int).toNat<L.At.length),IK L.At[(i:Int).toNat]->x.2.1<=2^63-1->IK (L.At[(i:Int).toNat]+(↑x.2.1:Int))/\(IK (L.At[(i:Int).toNat]+(↑x.2.1:Int))->IK (2*(L.At[(i:Int).toNat]+(↑x.2.1:Int)))/\(x.1.length+[(2:Int)*(L.At[(i:Int).toNat]+(↑x.2.1:Int))].length)*8<=2^47/\x.2.1+1<=2^63-1/\∃m,m<n/\H=H/\V m (x.1++[(2:Int)*(L.At[(i:Int).toNat]+(↑x.2.1:Int))],x.2.1+1,())))/\(¬(↑x.2.1:Int)<L.Bits[(i:Int).toNat]->Q (x.1,()) () H))));have p:=d.ln;have b:i<L.Bits.length:=by rw[d.lb];exact hi
 have a:i<L.At.length:=by rw[d.la];exact hi
 have o:((i:Int)).toNat=i:=by omega
 have r:=d.b0 i b;have u:=d.at_ i a;have v:=d.sum (k:=i) (by omega);have f:Mq L i=(am L.Bits[i].toNat).map λ(k:Nat)=>2*(L.At[i]+(k:Int)):=by grind[Mq]
 simp only[o];refine⟨λm=>by omega,λ_ _=>⟨λm=>?_,λ_ _=>⟨λ_=>by omega,b,λn z=>n=L.Bits[i].toNat-z.2.1/\z.2.1<=L.Bits[i].toNat/\z.1=(am z.2.1).map λ(k:Nat)=>2*(L.At[i]+(k:Int)),⟨_,trivial,rfl,aa _,rfl⟩,?_⟩⟩⟩
 .omega
 rintro n ⟨s,k,_⟩ ⟨g,l,j⟩;have m:n=L.Bits[i].toNat-k:=g;have t:k<=L.Bits[i].toNat:=l;have q:s=(am k).map λ(k:Nat)=>2*(L.At[i]+(k:Int)):=j;subst q;refine⟨λc _=>?_,λc=>?_⟩
 .have e:(k:Int)<L.Bits[i]:=c;refine⟨λ_=>by omega,a,λ_ _=>⟨A7.2 (by omega),λ_=>⟨A7.2 (by omega),?_,by omega,L.Bits[i].toNat-(k+1),by omega,trivial,rfl,by grind,?_⟩⟩⟩
  .grind
  .show (am k).map _++[_]=(am (k+1)).map _;rw[br,ac];rfl
 grind
theorem Vk(b:Jf L)(hi:i<L.Aa.length):(Mq L i).length<=30:=by
 have a:i<L.Bits.length:=by rw[b.lb];exact hi
 have:=b.b0 i a;grind[Mq]
theorem Vj(b:Jf L)(hi:i<L.Aa.length){v:Int}(d:v∈Mq L i):0<=v/\v+1<2*CR L/\v%2=0:=by
 have a:i<L.Bits.length:=by rw[b.lb];exact hi
 have c:i<L.At.length:=by rw[b.la];exact hi
 have h:=b.b0 i a;have g:=b.at_ i c;have l:=b.sum (k:=i) (by omega);have f:=b.NP (j:=i+1) (k:=L.Bits.length) (by omega) (an _);rw[Eo a]at f;unfold Mq at d;rw[a7 a,a7 c]at d;obtain⟨k,e,rfl⟩:=ak.1 d;have e:=bv.1 e;simp only[cd]at e ⊢;unfold CR;omega
theorem TK{Q:List Int×Unit->UU}(c:Jf L)(hi:i<L.Aa.length)(h:Q ((Mq L i).map (·+1),()) () H):qK IV FV (L,(i:Int),()) H Q X:=by
 refine wF Tryz.f53 {lp:=[(3,⟨[(5,.one (.own I6)),(12,.nat)],[10,11],false⟩)],im:=[2]} (?_:qK GV ET (L,(i:Int),()) H (λ(b:List Int×UT)_ G=>b.1.length<=2^63-1->∃(V:Nat->List Int×Nat×UT->Prop),(∃(n:Nat),G=G/\V n ([],0,()))/\∀n x,V n x->(x.2.1<b.1.length->x.2.1<=2^63-1->∃(h:x.2.1<b.1.length),IK b.1[x.2.1]->IK (b.1[x.2.1]+1)/\(x.1.length+[b.1[x.2.1]+1].length)*8<=2^47/\x.2.1+1<=2^63-1/\∃m,m<n/\G=G/\V m (x.1++[b.1[x.2.1]+1],x.2.1+1,()))/\(¬x.2.1<b.1.length->Q (x.1,()) () G)) X);refine QH c hi λ_=>?_;have l:=Vk c hi;have g:∀v∈Mq L i,0<=v/\v+1<2*CR L/\v%2=0:=λv m=>Vj c hi m;have j:=(c.sum (an _)).2;have q:=c.ln;have o:=c.lb;generalize Mq L i=V at *;refine⟨λn z=>n=V.length-z.2.1/\z.2.1<=V.length/\z.1=(V.take z.2.1).map (·+1),⟨_,rfl,rfl,aa _,rfl⟩,?_⟩;rintro n ⟨s,k,_⟩ ⟨f,e,d⟩;have r:n=V.length-k:=f;have u:k<=V.length:=e;have p:s=(V.take k).map (·+1):=d;subst p;refine⟨λb _=>?_,λb=>?_⟩
 .have a:k<V.length:=b;have t:=g V[k] (ae a);have w:CR L<=1920:=by grind[CR]
  refine⟨a,λ_=>⟨A7.2 (by grind),?_,by grind,V.length-(k+1),by omega,rfl,rfl,by grind,?_⟩⟩
  .grind
  .show (V.take k).map (·+1)++[V[k]+1]=(V.take (k+1)).map (·+1);rw[a8 a,ac];rfl
 grind
end
section
set_option maxRecDepth 100000
set_option maxHeartbeats 2000000
def Ek(yield:Int×UT->HY->(Bool×UT->HP)->PX->Prop)(p1:Option Nat)(H:HY)(Q:UT->UU)(X:PX):=∃(b:Nat),p1=some b/\∃(m:List (Int×Int)),H b=some (Ob.mp (Ty.int .i64) (Ty.int .i64) m)/\True/\∃(V:List (Int×Int)->UU),(True/\V m () (C0 H b))/\∀(left:List (Int×Int))(x:UT)(H:HY),V left x H->(left=[]->Q () () (Ab H b (Ob.mp (Ty.int .i64) (Ty.int .i64) m)))/\∀(l1:List (Int×Int))(p:Int×Int)(l2:List (Int×Int)),left=l1++p::l2->yield (p.1,()) H (λ(b1:Bool×UT)(G:HY)=>(¬b1.1->Q () () (Ab G b (Ob.mp (Ty.int .i64) (Ty.int .i64) m)))/\(¬¬b1.1->True/\V (l1++l2) () G)) X
theorem Iz yield p1 H Q X(h_:Ek yield p1 H Q X):qK AU AM (yield,p1,()) H Q X:=wFS Tryz.f139 {lp:=[(1,⟨[],[0,5],true⟩)]} h_
def DO(yield:Int×UT->HY->(Bool×UT->HP)->PX->Prop)(p1:Option Nat)(H:HY)(Q:UT->UU)(X:PX):=∃(b:Nat),p1=some b/\∃(m:List (Int×Int)),H b=some (Ob.mp (Ty.int .i64) (Ty.int .i64) m)/\True/\∃(V:List (Int×Int)->UU),(True/\V m () (C0 H b))/\∀(left:List (Int×Int))(x:UT)(H:HY),V left x H->(left=[]->Q () () (Ab H b (Ob.mp (Ty.int .i64) (Ty.int .i64) m)))/\∀(l1:List (Int×Int))(p:Int×Int)(l2:List (Int×Int)),left=l1++p::l2->yield (p.2,()) H (λ(b1:Bool×UT)(G:HY)=>(¬b1.1->Q () () (Ab G b (Ob.mp (Ty.int .i64) (Ty.int .i64) m)))/\(¬¬b1.1->True/\V (l1++l2) () G)) X
theorem HE yield p1 H Q X(h_:DO yield p1 H Q X):qK Be AS (yield,p1,()) H Q X:=wFS Tryz.f235 {lp:=[(1,⟨[],[0,6],true⟩)]} h_
def Lu(w:Option Nat)(a b:Ae)(J3:Int×Int×Int×UT->HY->(UT->HP)->PX->Prop)(H:HY)(Q:UT->UU)(X:PX):=qK CN Co (w,a,()) H (λ(b1:Option Nat×UT)_ G=>qK CN Co (w,b,()) G (λ(b:Option Nat×UT)_ G=>∀(b2:Nat),G b2=none->∀(l:Nat)(r:Loop),Ab G b2 (Ob.st Am []) l=none->qK AU AM (λ(a:Int×UT)(H:HY)(Q:Bool×UT->HP)(X:Nat->Lf Y0.D->HP)=>H l=some (Ob.lp r)/\H l=some (Ob.lp r)/\∃(x:List Int),Ab H l (Ob.lp (CF r)) b2=some (Ob.st Am x)/\(x.length+[a.1].length)*8<=2^47/\Ab (Ab H l (Ob.lp (CF r))) b2 (Ob.st Am (x++[a.1])) l=some (Ob.lp (CF r))/\Q (true,()) (Ab (Ab (Ab H l (Ob.lp (CF r))) b2 (Ob.st Am (x++[a.1]))) l (Ob.lp r)),b1.1,()) (Ab (Ab G b2 (Ob.st Am [])) l (Ob.lp r)) (λ(b3 io:UT)(G:HY)=>(G l=some (Ob.lp r)/\∀(r':Loop),∃(x:List Int),Ab G l (Ob.lp r') b2=some (Ob.st Am x)/\qK C9 Cd (x,()) (C0 (Ab G l (Ob.lp r')) b2) (λ(b4:UT)(io:List Int×UT)(G:HY)=>io.1.length<=2^63-1->∃(V:Nat->List Int×Nat×UT->HP),(∃(n:Nat),V n (io.1,0,()) G)/\∀n x H,V n x H->(x.2.1<io.1.length->x.2.1<=2^63-1->∃(h:x.2.1<x.1.length),∃(h:x.2.1<x.1.length),∀(b5:Nat),H b5=none->∀(l:Nat)(r:Loop),Ab H b5 (Ob.st Am []) l=none->qK AU AM (λ(a:Int×UT)(H:HY)(Q:Bool×UT->HP)(X:Nat->Lf Y0.D->HP)=>H l=some (Ob.lp r)/\H l=some (Ob.lp r)/\∃(x:List Int),Ab H l (Ob.lp (CF r)) b5=some (Ob.st Am x)/\(x.length+[a.1].length)*8<=2^47/\Ab (Ab H l (Ob.lp (CF r))) b5 (Ob.st Am (x++[a.1])) l=some (Ob.lp (CF r))/\Q (true,()) (Ab (Ab (Ab H l (Ob.lp (CF r))) b5 (Ob.st Am (x++[a.1]))) l (Ob.lp r)),b.1,()) (Ab (Ab H b5 (Ob.st Am [])) l (Ob.lp r)) (λ(b6 io:UT)(G:HY)=>(G l=some (Ob.lp r)/\∀(r':Loop),∃(x1:List Int),Ab G l (Ob.lp r') b5=some (Ob.st Am x1)/\qK C9 Cd (x1,()) (C0 (Ab G l (Ob.lp r')) b5) (λ(b7:UT)(io:List Int×UT)(G:HY)=>io.1.length<=2^63-1->∃(V1:Nat->List Int×List Int×Nat×UT->HP),(∃(n:Nat),V1 n (x.1,io.1,0,()) G)/\∀n1 x2 H,V1 n1 x2 H->(x2.2.2.1<io.1.length->x2.2.2.1<=(2^63-1:Nat)->∃(h1:x2.2.2.1<x2.2.1.length),∃(h2:x2.2.2.1<x2.2.1.length),∃(b8:Nat),w=some b8/\(∃(x3:Al),H b8=some (Ob.st BJ x3)/\(x3=x3/\∃(r:Nat),b1.1=some r/\∃(m:List (Int×Int)),H r=some (Ob.mp (Ty.int .i64) (Ty.int .i64) m)/\∃(r:Nat),b.1=some r/\∃(m1:List (Int×Int)),H r=some (Ob.mp (Ty.int .i64) (Ty.int .i64) m1)/\qK Cy Ci (x3.m,[(Ad m x.1[x.2.1]).getD (0:Int),(Ad m1 x2.2.1[x2.2.2.1]).getD (0:Int)],()) H (λ(b:Int×Int×UT)_ G=>qK AJ AD (w,b.1,b.2.1,()) G (λ(b:Int×UT)_ G=>∃(x4:Al),G b8=some (Ob.st BJ x4)/\x4=x4/\qK CQ CB (x4.m,b.1,(0:Int),()) G (λ(b9:Bool×Int×UT)_ G=>(b9.1->qK Ap Ao (w,[b.1],()) G (λ(b io:UT)(G:HY)=>x2.2.2.1+1<=(2^63-1:Nat)/\∃m,m<n1/\V1 m (x2.1,x2.2.1,x2.2.2.1+1,()) G) X)/\(¬b9.1->(¬b9.2.1=0->qK Ap Ao (w,[b.1],()) G (λ(b io:UT)(G:HY)=>x2.2.2.1+1<=(2^63-1:Nat)/\∃m,m<n1/\V1 m (x2.1,x2.2.1,x2.2.2.1+1,()) G) X)/\(¬¬b9.2.1=0->J3 (x.1[x.2.1],x2.2.1[x2.2.2.1],b.1,()) G (λ(b:UT)(G:HY)=>x2.2.2.1+1<=(2^63-1:Nat)/\∃m,m<n1/\V1 m (x2.1,x2.2.1,x2.2.2.1+1,()) G) X))) X) X) X)/\x3=x3/\∃(r:Nat),b.1=some r/\∃(m:List (Int×Int)),H r=some (Ob.mp (Ty.int .i64) (Ty.int .i64) m)/\∃(r:Nat),b1.1=some r/\∃(m1:List (Int×Int)),H r=some (Ob.mp (Ty.int .i64) (Ty.int .i64) m1)/\qK Cy Ci (x3.m,[(Ad m1 x.1[x.2.1]).getD (0:Int),(Ad m x2.2.1[x2.2.2.1]).getD (0:Int)],()) H (λ(b:Int×Int×UT)_ G=>qK AJ AD (w,b.1,b.2.1,()) G (λ(b:Int×UT)_ G=>∃(x4:Al),G b8=some (Ob.st BJ x4)/\x4=x4/\qK CQ CB (x4.m,b.1,(0:Int),()) G (λ(b9:Bool×Int×UT)_ G=>(b9.1->qK Ap Ao (w,[b.1],()) G (λ(b io:UT)(G:HY)=>x2.2.2.1+1<=(2^63-1:Nat)/\∃m,m<n1/\V1 m (x2.1,x2.2.1,x2.2.2.1+1,()) G) X)/\(¬b9.1->(¬b9.2.1=0->qK Ap Ao (w,[b.1],()) G (λ(b io:UT)(G:HY)=>x2.2.2.1+1<=(2^63-1:Nat)/\∃m,m<n1/\V1 m (x2.1,x2.2.1,x2.2.2.1+1,()) G) X)/\(¬¬b9.2.1=0->J3 (x.1[x.2.1],x2.2.1[x2.2.2.1],b.1,()) G (λ(b:UT)(G:HY)=>x2.2.2.1+1<=(2^63-1:Nat)/\∃m,m<n1/\V1 m (x2.1,x2.2.1,x2.2.2.1+1,()) G) X))) X) X) X)/\(∃(r:Nat),b1.1=some r/\∃(m:List (Int×Int)),H r=some (Ob.mp (Ty.int .i64) (Ty.int .i64) m)/\(∃(x3:Al),H b8=some (Ob.st BJ x3)/\x3=x3/\∃(r:Nat),b.1=some r/\∃(m1:List (Int×Int)),H r=some (Ob.mp (Ty.int .i64) (Ty.int .i64) m1)/\qK Cy Ci (x3.m,[(Ad m x.1[x.2.1]).getD (0:Int),(Ad m1 x2.2.1[x2.2.2.1]).getD (0:Int)],()) H (λ(b:Int×Int×UT)_ G=>qK AJ AD (w,b.1,b.2.1,()) G (λ(b:Int×UT)_ G=>∃(x4:Al),G b8=some (Ob.st BJ x4)/\x4=x4/\qK CQ CB (x4.m,b.1,(0:Int),()) G (λ(b9:Bool×Int×UT)_ G=>(b9.1->qK Ap Ao (w,[b.1],()) G (λ(b io:UT)(G:HY)=>x2.2.2.1+1<=(2^63-1:Nat)/\∃m,m<n1/\V1 m (x2.1,x2.2.1,x2.2.2.1+1,()) G) X)/\(¬b9.1->(¬b9.2.1=0->qK Ap Ao (w,[b.1],()) G (λ(b io:UT)(G:HY)=>x2.2.2.1+1<=(2^63-1:Nat)/\∃m,m<n1/\V1 m (x2.1,x2.2.1,x2.2.2.1+1,()) G) X)/\(¬¬b9.2.1=0->J3 (x.1[x.2.1],x2.2.1[x2.2.2.1],b.1,()) G (λ(b:UT)(G:HY)=>x2.2.2.1+1<=(2^63-1:Nat)/\∃m,m<n1/\V1 m (x2.1,x2.2.1,x2.2.2.1+1,()) G) X))) X) X) X)/\∃(r:Nat),b.1=some r/\∃(m1:List (Int×Int)),H r=some (Ob.mp (Ty.int .i64) (Ty.int .i64) m1)/\dup (∃(x3:Al),H b8=some (Ob.st BJ x3)/\x3=x3/\qK Cy Ci (x3.m,[(Ad m x.1[x.2.1]).getD (0:Int),(Ad m1 x2.2.1[x2.2.2.1]).getD (0:Int)],()) H (λ(b:Int×Int×UT)_ G=>qK AJ AD (w,b.1,b.2.1,()) G (λ(b:Int×UT)_ G=>∃(x4:Al),G b8=some (Ob.st BJ x4)/\x4=x4/\qK CQ CB (x4.m,b.1,(0:Int),()) G (λ(b9:Bool×Int×UT)_ G=>(b9.1->qK Ap Ao (w,[b.1],()) G (λ(b io:UT)(G:HY)=>x2.2.2.1+1<=(2^63-1:Nat)/\∃m,m<n1/\V1 m (x2.1,x2.2.1,x2.2.2.1+1,()) G) X)/\(¬b9.1->(¬b9.2.1=0->qK Ap Ao (w,[b.1],()) G (λ(b io:UT)(G:HY)=>x2.2.2.1+1<=(2^63-1:Nat)/\∃m,m<n1/\V1 m (x2.1,x2.2.1,x2.2.2.1+1,()) G) X)/\(¬¬b9.2.1=0->J3 (x.1[x.2.1],x2.2.1[x2.2.2.1],b.1,()) G (λ(b:UT)(G:HY)=>x2.2.2.1+1<=(2^63-1:Nat)/\∃m,m<n1/\V1 m (x2.1,x2.2.1,x2.2.2.1+1,()) G) X))) X) X) X))/\∃(r:Nat),b.1=some r/\∃(m:List (Int×Int)),H r=some (Ob.mp (Ty.int .i64) (Ty.int .i64) m)/\(∃(x3:Al),H b8=some (Ob.st BJ x3)/\x3=x3/\∃(r:Nat),b1.1=some r/\∃(m1:List (Int×Int)),H r=some (Ob.mp (Ty.int .i64) (Ty.int .i64) m1)/\qK Cy Ci (x3.m,[(Ad m1 x.1[x.2.1]).getD (0:Int),(Ad m x2.2.1[x2.2.2.1]).getD (0:Int)],()) H (λ(b:Int×Int×UT)_ G=>qK AJ AD (w,b.1,b.2.1,()) G (λ(b:Int×UT)_ G=>∃(x4:Al),G b8=some (Ob.st BJ x4)/\x4=x4/\qK CQ CB (x4.m,b.1,(0:Int),()) G (λ(b9:Bool×Int×UT)_ G=>(b9.1->qK Ap Ao (w,[b.1],()) G (λ(b io:UT)(G:HY)=>x2.2.2.1+1<=(2^63-1:Nat)/\∃m,m<n1/\V1 m (x2.1,x2.2.1,x2.2.2.1+1,()) G) X)/\(¬b9.1->(¬b9.2.1=0->qK Ap Ao (w,[b.1],()) G (λ(b io:UT)(G:HY)=>x2.2.2.1+1<=(2^63-1:Nat)/\∃m,m<n1/\V1 m (x2.1,x2.2.1,x2.2.2.1+1,()) G) X)/\(¬¬b9.2.1=0->J3 (x.1[x.2.1],x2.2.1[x2.2.2.1],b.1,()) G (λ(b:UT)(G:HY)=>x2.2.2.1+1<=(2^63-1:Nat)/\∃m,m<n1/\V1 m (x2.1,x2.2.1,x2.2.2.1+1,()) G) X))) X) X) X)/\∃(r:Nat),b1.1=some r/\∃(m1:List (Int×Int)),H r=some (Ob.mp (Ty.int .i64) (Ty.int .i64) m1)/\dup (∃(x3:Al),H b8=some (Ob.st BJ x3)/\x3=x3/\qK Cy Ci (x3.m,[(Ad m1 x.1[x.2.1]).getD (0:Int),(Ad m x2.2.1[x2.2.2.1]).getD (0:Int)],()) H (λ(b:Int×Int×UT)_ G=>qK AJ AD (w,b.1,b.2.1,()) G (λ(b:Int×UT)_ G=>∃(x4:Al),G b8=some (Ob.st BJ x4)/\x4=x4/\qK CQ CB (x4.m,b.1,(0:Int),()) G (λ(b9:Bool×Int×UT)_ G=>(b9.1->qK Ap Ao (w,[b.1],()) G (λ(b io:UT)(G:HY)=>x2.2.2.1+1<=(2^63-1:Nat)/\∃m,m<n1/\V1 m (x2.1,x2.2.1,x2.2.2.1+1,()) G) X)/\(¬b9.1->(¬b9.2.1=0->qK Ap Ao (w,[b.1],()) G (λ(b io:UT)(G:HY)=>x2.2.2.1+1<=(2^63-1:Nat)/\∃m,m<n1/\V1 m (x2.1,x2.2.1,x2.2.2.1+1,()) G) X)/\(¬¬b9.2.1=0->J3 (x.1[x.2.1],x2.2.1[x2.2.2.1],b.1,()) G (λ(b:UT)(G:HY)=>x2.2.2.1+1<=(2^63-1:Nat)/\∃m,m<n1/\V1 m (x2.1,x2.2.1,x2.2.2.1+1,()) G) X))) X) X) X))/\(¬x2.2.2.1<io.1.length->x.2.1+1<=(2^63-1:Nat)/\∃m,m<n/\V m (x2.1,x.2.1+1,()) H)) X)∨G l=some (Ob.lp (O7 r Code.ret))/\∀(r':Loop),False) X)/\(¬x.2.1<io.1.length->∀(b5:Nat),H b5=none->∀(l:Nat)(r:Loop),Ab H b5 (Ob.st Am []) l=none->qK Be AS (λ(a:Int×UT)(H:HY)(Q:Bool×UT->HP)(X:Nat->Lf Y0.D->HP)=>H l=some (Ob.lp r)/\H l=some (Ob.lp r)/\∃(x:List Int),Ab H l (Ob.lp (CF r)) b5=some (Ob.st Am x)/\(x.length+[a.1].length)*8<=2^47/\Ab (Ab H l (Ob.lp (CF r))) b5 (Ob.st Am (x++[a.1])) l=some (Ob.lp (CF r))/\Q (true,()) (Ab (Ab (Ab H l (Ob.lp (CF r))) b5 (Ob.st Am (x++[a.1]))) l (Ob.lp r)),b1.1,()) (Ab (Ab H b5 (Ob.st Am [])) l (Ob.lp r)) (λ(b6 io:UT)(G:HY)=>(G l=some (Ob.lp r)/\∀(r':Loop),∃(x:List Int),Ab G l (Ob.lp r') b5=some (Ob.st Am x)/\qK Ap Ao (w,x,()) (C0 (Ab G l (Ob.lp r')) b5) (λ(b7 io:UT)(G:HY)=>∀(b8:Nat),G b8=none->∀(l:Nat)(r:Loop),Ab G b8 (Ob.st Am []) l=none->qK Be AS (λ(a:Int×UT)(H:HY)(Q:Bool×UT->HP)(X:Nat->Lf Y0.D->HP)=>H l=some (Ob.lp r)/\H l=some (Ob.lp r)/\∃(x:List Int),Ab H l (Ob.lp (CF r)) b8=some (Ob.st Am x)/\(x.length+[a.1].length)*8<=(2^47:Nat)/\Ab (Ab H l (Ob.lp (CF r))) b8 (Ob.st Am (x++[a.1])) l=some (Ob.lp (CF r))/\Q (true,()) (Ab (Ab (Ab H l (Ob.lp (CF r))) b8 (Ob.st Am (x++[a.1]))) l (Ob.lp r)),b.1,()) (Ab (Ab G b8 (Ob.st Am [])) l (Ob.lp r)) (λ(b io:UT)(G:HY)=>(G l=some (Ob.lp r)/\∀(r':Loop),∃(x:List Int),Ab G l (Ob.lp r') b8=some (Ob.st Am x)/\qK Ap Ao (w,x,()) (C0 (Ab G l (Ob.lp r')) b8) (λ(b io:UT)(G:HY)=>Q () () G) X)∨G l=some (Ob.lp (O7 r Code.ret))/\∀(r':Loop),qK Ap Ao (w,[],()) (Ab G l (Ob.lp r')) (λ(b io:UT)(G:HY)=>Q () () G) X) X) X)∨G l=some (Ob.lp (O7 r Code.ret))/\∀(r':Loop),qK Ap Ao (w,[],()) (Ab G l (Ob.lp r')) (λ(b7 io:UT)(G:HY)=>∀(b8:Nat),G b8=none->∀(l:Nat)(r:Loop),Ab G b8 (Ob.st Am []) l=none->qK Be AS (λ(a:Int×UT)(H:HY)(Q:Bool×UT->HP)(X:Nat->Lf Y0.D->HP)=>H l=some (Ob.lp r)/\H l=some (Ob.lp r)/\∃(x:List Int),Ab H l (Ob.lp (CF r)) b8=some (Ob.st Am x)/\(x.length+[a.1].length)*8<=(2^47:Nat)/\Ab (Ab H l (Ob.lp (CF r))) b8 (Ob.st Am (x++[a.1])) l=some (Ob.lp (CF r))/\Q (true,()) (Ab (Ab (Ab H l (Ob.lp (CF r))) b8 (Ob.st Am (x++[a.1]))) l (Ob.lp r)),b.1,()) (Ab (Ab G b8 (Ob.st Am [])) l (Ob.lp r)) (λ(b io:UT)(G:HY)=>(G l=some (Ob.lp r)/\∀(r':Loop),∃(x:List Int),Ab G l (Ob.lp r') b8=some (Ob.st Am x)/\qK Ap Ao (w,x,()) (C0 (Ab G l (Ob.lp r')) b8) (λ(b io:UT)(G:HY)=>Q () () G) X)∨G l=some (Ob.lp (O7 r Code.ret))/\∀(r':Loop),qK Ap Ao (w,[],()) (Ab G l (Ob.lp r')) (λ(b io:UT)(G:HY)=>Q () () G) X) X) X) X)) X)∨G l=some (Ob.lp (O7 r Code.ret))/\∀(r':Loop),False) X) X) X
def D6(w:Option Nat)(t:Ae)(H:HY)(Q:Option Nat×UT->UU)(X:PX):=∀(r:Nat),H r=none->∀(b:Nat),Ab H r (Ob.mp (Ty.int .i64) (Ty.int .i64) []) b=none->(t.Op=1->(∃(x:Option Nat),Ab (Ab H r (Ob.mp (Ty.int .i64) (Ty.int .i64) [])) b (Ob.st Ak (some r)) b=some (Ob.st Ak x)/\x=x/\qK BN B8 (w,true,()) (Ab (Ab H r (Ob.mp (Ty.int .i64) (Ty.int .i64) [])) b (Ob.st Ak (some r))) (λ(b1:Int×UT)_ G=>∃(r:Nat),x=some r/\∃(m:List (Int×Int)),G r=some (Ob.mp (Ty.int .i64) (Ty.int .i64) m)/\∃(x:Option Nat),Ab G r (Ob.mp (Ty.int .i64) (Ty.int .i64) (BR m t.N b1.1)) b=some (Ob.st Ak x)/\x=x/\Q (x,()) () (Ab G r (Ob.mp (Ty.int .i64) (Ty.int .i64) (BR m t.N b1.1)))) X)/\qK BN B8 (w,true,()) (Ab (Ab H r (Ob.mp (Ty.int .i64) (Ty.int .i64) [])) b (Ob.st Ak (some r))) (λ(b1:Int×UT)_ G=>∃(x:Option Nat),G b=some (Ob.st Ak x)/\x=x/\∃(r:Nat),x=some r/\∃(m:List (Int×Int)),G r=some (Ob.mp (Ty.int .i64) (Ty.int .i64) m)/\∃(x:Option Nat),Ab G r (Ob.mp (Ty.int .i64) (Ty.int .i64) (BR m t.N b1.1)) b=some (Ob.st Ak x)/\x=x/\Q (x,()) () (Ab G r (Ob.mp (Ty.int .i64) (Ty.int .i64) (BR m t.N b1.1)))) X)/\(¬t.Op=1->(t.Op=3->∃(b1:Nat),w=some b1/\∃(x:Al),Ab (Ab H r (Ob.mp (Ty.int .i64) (Ty.int .i64) [])) b (Ob.st Ak (some r)) b1=some (Ob.st BJ x)/\x=x/\qK Ds CH (x.l,t.qJ,()) (Ab (Ab H r (Ob.mp (Ty.int .i64) (Ty.int .i64) [])) b (Ob.st Ak (some r))) (λ(b2:Int×UT)_ G=>∃(b3:Nat),w=some b3/\∃(x:Al),G b3=some (Ob.st BJ x)/\(IK b2.1->(IK b2.1->0<=b2.1)/\∃(h:b2.1.toNat<x.l.Aa.length),x=x/\qK IY Gu (x.l.Aa[b2.1.toNat],()) G (λ(b4:Int×Int×UT)_ G=>∃(V:Nat->Int×UT->HP),(∃(n:Nat),V n (b4.1,()) G)/\∀n x H,V n x H->(x.1<=b4.2.1->(∃(x1:Option Nat),H b=some (Ob.st Ak x1)/\x1=x1/\qK BG B3 (w,b2.1,x.1,decide (t.Op=4),()) H (λ(b:Int×UT)_ G=>∃(r:Nat),x1=some r/\∃(m:List (Int×Int)),G r=some (Ob.mp (Ty.int .i64) (Ty.int .i64) m)/\(IK x.1->IK (x.1+1)/\∃m1,m1<n/\V m1 (x.1+1,()) (Ab G r (Ob.mp (Ty.int .i64) (Ty.int .i64) (BR m x.1 b.1))))) X)/\qK BG B3 (w,b2.1,x.1,decide (t.Op=4),()) H (λ(b5:Int×UT)_ G=>∃(x1:Option Nat),G b=some (Ob.st Ak x1)/\x1=x1/\∃(r:Nat),x1=some r/\∃(m:List (Int×Int)),G r=some (Ob.mp (Ty.int .i64) (Ty.int .i64) m)/\(IK x.1->IK (x.1+1)/\∃m1,m1<n/\V m1 (x.1+1,()) (Ab G r (Ob.mp (Ty.int .i64) (Ty.int .i64) (BR m x.1 b5.1))))) X)/\(¬x.1<=b4.2.1->∃(x:Option Nat),H b=some (Ob.st Ak x)/\x=x/\Q (x,()) () H)) X)) X)/\(¬t.Op=3->(t.Op=4->∃(b1:Nat),w=some b1/\∃(x:Al),Ab (Ab H r (Ob.mp (Ty.int .i64) (Ty.int .i64) [])) b (Ob.st Ak (some r)) b1=some (Ob.st BJ x)/\x=x/\qK Ds CH (x.l,t.qJ,()) (Ab (Ab H r (Ob.mp (Ty.int .i64) (Ty.int .i64) [])) b (Ob.st Ak (some r))) (λ(b2:Int×UT)_ G=>∃(b3:Nat),w=some b3/\∃(x:Al),G b3=some (Ob.st BJ x)/\(IK b2.1->(IK b2.1->0<=b2.1)/\∃(h:b2.1.toNat<x.l.Aa.length),x=x/\qK IY Gu (x.l.Aa[b2.1.toNat],()) G (λ(b4:Int×Int×UT)_ G=>∃(V:Nat->Int×UT->HP),(∃(n:Nat),V n (b4.1,()) G)/\∀n x H,V n x H->(x.1<=b4.2.1->(∃(x1:Option Nat),H b=some (Ob.st Ak x1)/\x1=x1/\qK BG B3 (w,b2.1,x.1,decide (t.Op=4),()) H (λ(b:Int×UT)_ G=>∃(r:Nat),x1=some r/\∃(m:List (Int×Int)),G r=some (Ob.mp (Ty.int .i64) (Ty.int .i64) m)/\(IK x.1->IK (x.1+1)/\∃m1,m1<n/\V m1 (x.1+1,()) (Ab G r (Ob.mp (Ty.int .i64) (Ty.int .i64) (BR m x.1 b.1))))) X)/\qK BG B3 (w,b2.1,x.1,decide (t.Op=4),()) H (λ(b5:Int×UT)_ G=>∃(x1:Option Nat),G b=some (Ob.st Ak x1)/\x1=x1/\∃(r:Nat),x1=some r/\∃(m:List (Int×Int)),G r=some (Ob.mp (Ty.int .i64) (Ty.int .i64) m)/\(IK x.1->IK (x.1+1)/\∃m1,m1<n/\V m1 (x.1+1,()) (Ab G r (Ob.mp (Ty.int .i64) (Ty.int .i64) (BR m x.1 b5.1))))) X)/\(¬x.1<=b4.2.1->∃(x:Option Nat),H b=some (Ob.st Ak x)/\x=x/\Q (x,()) () H)) X)) X)/\(¬t.Op=4->(t.Op=18->(True->(0:Int)<=0)/\∃(h:bn (0:Int)<t.qZ.length),qK Ed Dq (w,t.qZ[bn (0:Int)],()) (Ab (Ab H r (Ob.mp (Ty.int .i64) (Ty.int .i64) [])) b (Ob.st Ak (some r))) (λ(b1:Int×UT)_ G=>∃(b2:Nat),w=some b2/\∃(x:Al),G b2=some (Ob.st BJ x)/\x=x/\qK KN IF (x.m,b1.1,()) G (λ(b3:Int×Int×UT)_ G=>qK AJ AD (w,b3.1,b3.2.1,()) G (λ(b4:Int×UT)_ G=>∃(V:Nat->Nat×UT->HP),(∃(n:Nat),V n (0,()) G)/\∀n x H,V n x H->(x.1<2->x.1<=2^63-1->∃(h:x.1<[b1.1,b4.1].length),x.1<=2^63-1->IK (1+(↑x.1:Int))/\(IK (1+(↑x.1:Int))->(IK (1+(↑x.1:Int))->(0:Int)<=1+(↑x.1:Int))/\∃(h1:(1+(↑x.1:Int)).toNat<t.qZ.length),qK CN Co (w,t.qZ[(1+(↑x.1:Int)).toNat],()) H (λ(b5:Option Nat×UT)_ G=>∀(b6:Nat),G b6=none->∀(l:Nat)(r:Loop),Ab G b6 (Ob.st Am []) l=none->qK AU AM (λ(a:Int×UT)(H:HY)(Q:Bool×UT->HP)(X:Nat->Lf Y0.D->HP)=>H l=some (Ob.lp r)/\H l=some (Ob.lp r)/\∃(x:List Int),Ab H l (Ob.lp (CF r)) b6=some (Ob.st Am x)/\(x.length+[a.1].length)*8<=(2^47:Nat)/\Ab (Ab H l (Ob.lp (CF r))) b6 (Ob.st Am (x++[a.1])) l=some (Ob.lp (CF r))/\Q (true,()) (Ab (Ab (Ab H l (Ob.lp (CF r))) b6 (Ob.st Am (x++[a.1]))) l (Ob.lp r)),b5.1,()) (Ab (Ab G b6 (Ob.st Am [])) l (Ob.lp r)) (λ(b7 io:UT)(G:HY)=>(G l=some (Ob.lp r)/\∀(r':Loop),∃(x1:List Int),Ab G l (Ob.lp r') b6=some (Ob.st Am x1)/\qK C9 Cd (x1,()) (C0 (Ab G l (Ob.lp r')) b6) (λ(b8:UT)(io:List Int×UT)(G:HY)=>io.1.length<=(2^63-1:Nat)->∃(V1:Nat->List Int×Nat×UT->HP),(∃(n:Nat),V1 n (io.1,0,()) G)/\∀n1 x2 H,V1 n1 x2 H->(x2.2.1<io.1.length->x2.2.1<=(2^63-1:Nat)->∃(h2:x2.2.1<x2.1.length),∃(h3:x2.2.1<x2.1.length),∃(b9:Nat),w=some b9/\(∃(x3:Al),H b9=some (Ob.st BJ x3)/\x3=x3/\∃(r:Nat),b5.1=some r/\∃(m:List (Int×Int)),H r=some (Ob.mp (Ty.int .i64) (Ty.int .i64) m)/\qK Cy Ci (x3.m,[(Ad m x2.1[x2.2.1]).getD (0:Int),[b1.1,b4.1][x.1]],()) H (λ(b10:Int×Int×UT)_ G=>qK AJ AD (w,b10.1,b10.2.1,()) G (λ(b11:Int×UT)_ G=>∃(r:Nat),b5.1=some r/\∃(m:List (Int×Int)),G r=some (Ob.mp (Ty.int .i64) (Ty.int .i64) m)/\qK Ap Ao (w,[(Ad m x2.1[x2.2.1]).getD (0:Int)],()) G (λ(b12 io:UT)(G:HY)=>∃(x:Option Nat),G b=some (Ob.st Ak x)/\x=x/\qK Cb BQ (w,x,x2.1[x2.2.1],b11.1,()) G (λ(b io:UT)(G:HY)=>x2.2.1+1<=(2^63-1:Nat)/\∃m,m<n1/\V1 m (x2.1,x2.2.1+1,()) G) X) X) X) X)/\∃(r:Nat),b5.1=some r/\∃(m:List (Int×Int)),H r=some (Ob.mp (Ty.int .i64) (Ty.int .i64) m)/\dup (∃(x3:Al),H b9=some (Ob.st BJ x3)/\x3=x3/\qK Cy Ci (x3.m,[(Ad m x2.1[x2.2.1]).getD (0:Int),[b1.1,b4.1][x.1]],()) H (λ(b10:Int×Int×UT)_ G=>qK AJ AD (w,b10.1,b10.2.1,()) G (λ(b11:Int×UT)_ G=>∃(r:Nat),b5.1=some r/\∃(m:List (Int×Int)),G r=some (Ob.mp (Ty.int .i64) (Ty.int .i64) m)/\qK Ap Ao (w,[(Ad m x2.1[x2.2.1]).getD (0:Int)],()) G (λ(b12 io:UT)(G:HY)=>∃(x:Option Nat),G b=some (Ob.st Ak x)/\x=x/\qK Cb BQ (w,x,x2.1[x2.2.1],b11.1,()) G (λ(b io:UT)(G:HY)=>x2.2.1+1<=(2^63-1:Nat)/\∃m,m<n1/\V1 m (x2.1,x2.2.1+1,()) G) X) X) X) X))/\(¬x2.2.1<io.1.length->x.1+1<=(2^63-1:Nat)/\∃m,m<n/\V m (x.1+1,()) H)) X)∨G l=some (Ob.lp (O7 r Code.ret))/\∀(r':Loop),False) X) X))/\(¬x.1<2->qK Ap Ao (w,[b1.1,b4.1],()) H (λ(b5 io:UT)(G:HY)=>∃(x:Option Nat),G b=some (Ob.st Ak x)/\x=x/\Q (x,()) () G) X)) X) X) X)/\(¬t.Op=18->(True->(0:Int)<=0)/\∃(h:bn (0:Int)<t.qZ.length),(True->(0:Int)<=1)/\∃(h1:bn (1:Int)<t.qZ.length),qK Il Fq (w,t.qZ[bn (0:Int)],t.qZ[bn (1:Int)],λ(a:Int×Int×Int×UT)(H:HY)(Q:UT->HP)(X:Nat->Lf Y0.D->HP)=>qK DK CT (a.1,a.2.1,a.2.2.1,t,w,some b,()) H (λ(b x:UT)(G:HY)=>Q () G) X,()) (Ab (Ab H r (Ob.mp (Ty.int .i64) (Ty.int .i64) [])) b (Ob.st Ak (some r))) (λ(b1 io:UT)(G:HY)=>∃(x:Option Nat),G b=some (Ob.st Ak x)/\x=x/\Q (x,()) () G) X))))
theorem E4 w t H Q X(h_:D6 w t H Q X):qK CN Co (w,t,()) H Q X:=wF Tryz.f60 {lp:=[(11,⟨[(9,.one (.dat I6))],[2,3,5,6,8],true⟩),(22,⟨[(111,.one (.own I6)),(113,.nat)],[2,3,5,10,11,13,14,96,97,111,112],true⟩),(18,⟨[(97,.nat)],[2,3,5,10,11,96],true⟩)],pr:=[(5,35)],im:=[2,3],il:=ilT,hd:=[(5,[5]),(13,[5])]} h_
def Qo(m:Option Nat)(l:Ac)(t:Ae)(H:HY)(Q:List BU×Int×UT->UU)(X:PX):=qK JO HB (m,l,()) H (λ(b:Option Nat×Int×UT)_ G=>(¬b.2.1=0->Q ([],b.2.1,()) () G)/\(¬¬b.2.1=0->qK Fx Ey (l.Aa,t,true,()) G (λ(b1:Af×Int×UT)_ G=>(¬b1.2.1=0->Q ([],b1.2.1,()) () G)/\(¬¬b1.2.1=0->(b1.1.Bool->Q ([],13,()) () G)/\(¬b1.1.Bool->qK Fy DY (b.1,false,()) G (λ(b2:Int×UT)_ G=>qK Fy DY (b.1,true,()) G (λ(b3:Int×UT)_ G=>qK Bk AY (b.1,λ(a:Option Nat×List Int×UT)(H:HY)(Q:Int×Int×UT->HP)(X:Nat->Lf Y0.D->HP)=>qK Cy Ci (a.1,a.2.1,()) H (λ(b:Int×Int×UT)(x:UT)(G:HY)=>Q (b.1,b.2.1,()) G) X,[b2.1,b3.1],()) G (λ(b4:Int×UT)_ G=>qK CN Co (b.1,t,()) G (λ(b5:Option Nat×UT)_ G=>∀(b6:Nat),G b6=none->∀(l:Nat)(r:Loop),Ab G b6 (Ob.st Am []) l=none->qK AU AM (λ(a:Int×UT)(H:HY)(Q:Bool×UT->HP)(X:Nat->Lf Y0.D->HP)=>H l=some (Ob.lp r)/\H l=some (Ob.lp r)/\∃(x:List Int),Ab H l (Ob.lp (CF r)) b6=some (Ob.st Am x)/\(x.length+[a.1].length)*8<=2^47/\Ab (Ab H l (Ob.lp (CF r))) b6 (Ob.st Am (x++[a.1])) l=some (Ob.lp (CF r))/\Q (true,()) (Ab (Ab (Ab H l (Ob.lp (CF r))) b6 (Ob.st Am (x++[a.1]))) l (Ob.lp r)),b5.1,()) (Ab (Ab G b6 (Ob.st Am [])) l (Ob.lp r)) (λ(b7 io:UT)(G:HY)=>(G l=some (Ob.lp r)/\∀(r':Loop),∃(x:List Int),Ab G l (Ob.lp r') b6=some (Ob.st Am x)/\qK C9 Cd (x,()) (C0 (Ab G l (Ob.lp r')) b6) (λ(b8:UT)(io:List Int×UT)(G:HY)=>io.1.length<=2^63-1->∃(V:Nat->List BU×List Int×List Int×Nat×UT->HP),(∃(n:Nat),V n ([],[],io.1,0,()) G)/\∀n x H,V n x H->(x.2.2.2.1<io.1.length->x.2.2.2.1<=2^63-1->∃(h:x.2.2.2.1<x.2.2.1.length),∃(h:x.2.2.2.1<x.2.2.1.length),∃(r:Nat),b5.1=some r/\∃(m1:List (Int×Int)),H r=some (Ob.mp (Ty.int .i64) (Ty.int .i64) m1)/\qK Iv Gl (m,(Ad m1 x.2.2.1[x.2.2.2.1]).getD 0,b4.1,()) H (λ(b9:Bool×Int×UT)_ G=>∃(b10:Nat),b.1=some b10/\∃(x1:Al),G b10=some (Ob.st BJ x1)/\(x1.e=0->(b9.1->∃(r:Nat),b5.1=some r/\∃(m:List (Int×Int)),Ab G b10 (Ob.st BJ {x1 with e:=b9.2.1}) r=some (Ob.mp (Ty.int .i64) (Ty.int .i64) m)/\(x.1.length+[{N:=x.2.2.1[x.2.2.2.1],H:=(Ad m x.2.2.1[x.2.2.2.1]).getD 0:BU}].length)*(16:Nat)<=(2^47:Nat)/\∃(r:Nat),b5.1=some r/\∃(m2:List (Int×Int)),Ab G b10 (Ob.st BJ {x1 with e:=b9.2.1}) r=some (Ob.mp (Ty.int .i64) (Ty.int .i64) m2)/\(x.2.1.length+[(Ad m2 x.2.2.1[x.2.2.2.1]).getD (0:Int)].length)*(8:Nat)<=(2^47:Nat)/\x.2.2.2.1+1<=(2^63-1:Nat)/\∃m3,m3<n/\V m3 (x.1++[{N:=x.2.2.1[x.2.2.2.1],H:=(Ad m x.2.2.1[x.2.2.2.1]).getD 0:BU}],x.2.1++[(Ad m2 x.2.2.1[x.2.2.2.1]).getD (0:Int)],x.2.2.1,x.2.2.2.1+1,()) (Ab G b10 (Ob.st BJ {x1 with e:=b9.2.1})))/\(¬b9.1->x.2.2.2.1+1<=(2^63-1:Nat)/\∃m,m<n/\V m (x.1,x.2.1,x.2.2.1,x.2.2.2.1+1,()) (Ab G b10 (Ob.st BJ {x1 with e:=b9.2.1}))))/\(¬x1.e=0->(b9.1->x1=x1/\∃(r:Nat),b5.1=some r/\∃(m:List (Int×Int)),G r=some (Ob.mp (Ty.int .i64) (Ty.int .i64) m)/\(x.1.length+[{N:=x.2.2.1[x.2.2.2.1],H:=(Ad m x.2.2.1[x.2.2.2.1]).getD 0:BU}].length)*(16:Nat)<=(2^47:Nat)/\∃(r:Nat),b5.1=some r/\∃(m2:List (Int×Int)),G r=some (Ob.mp (Ty.int .i64) (Ty.int .i64) m2)/\(x.2.1.length+[(Ad m2 x.2.2.1[x.2.2.2.1]).getD (0:Int)].length)*(8:Nat)<=(2^47:Nat)/\x.2.2.2.1+1<=(2^63-1:Nat)/\∃m3,m3<n/\V m3 (x.1++[{N:=x.2.2.1[x.2.2.2.1],H:=(Ad m x.2.2.1[x.2.2.2.1]).getD 0:BU}],x.2.1++[(Ad m2 x.2.2.1[x.2.2.2.1]).getD (0:Int)],x.2.2.1,x.2.2.2.1+1,()) G)/\(¬b9.1->x.2.2.2.1+1<=(2^63-1:Nat)/\∃m,m<n/\x1=x1/\V m (x.1,x.2.1,x.2.2.1,x.2.2.2.1+1,()) G))) X)/\(¬x.2.2.2.1<io.1.length->qK J2 GL (b.1,x.2.1,()) H (λ(b:Int×UT)_ G=>(¬b.1=0->Q ([],b.1,()) () G)/\(¬¬b.1=0->Q (x.1,0,()) () G)) X)) X)∨G l=some (Ob.lp (O7 r Code.ret))/\∀(r':Loop),False) X) X) X) X) X))) X)) X
end
end Go.Proofs.YtcbkbpjlbmalmaaGreatDoor
namespace Go.Proofs.YtcbkbpjlbmalmaaGreatDoor
open Go Go.X Go.Y Go.RowKit Go.Shelf
section
set_option maxRecDepth 100000
set_option maxHeartbeats 1000000
def Aia:Go.Shelf.Ren:=⟨fun|5=>138|8=>195|7=>194|19=>245|20=>246|10=>236|11=>237|12=>238|13=>239|14=>240|15=>241|16=>242|17=>243|18=>244|30=>260|31=>261|32=>262|33=>263|34=>264|35=>265|40=>277|n=>n,fun|23=>23|25=>3|3=>3|32=>237|22=>23|0=>0|44=>285|46=>183|4=>4|36=>279|35=>278|41=>47|5=>5|9=>9|53=>310|57=>314|63=>325|64=>82|n=>n,fun|n=>n⟩
theorem Atj:Go.Proofs.SlLaysM.n5 Tryz.prog Aia:={
 mixed:=by kernel_rfl,
 f5:=⟨Tryz.f138.name,by decide,Tryz.func138.trans (congrArg some (by kernel_rfl))⟩,
 f7:=⟨Tryz.f194.name,by decide,Tryz.func194.trans (congrArg some (by kernel_rfl))⟩,
 f8:=Tryz.func195.trans (congrArg some (by kernel_rfl)),
 f10:=⟨Tryz.f236.name,by decide,Tryz.func236.trans (congrArg some (by kernel_rfl))⟩,
 f11:=⟨Tryz.f237.name,by decide,Tryz.func237.trans (congrArg some (by kernel_rfl))⟩,
 f12:=⟨Tryz.f238.name,by decide,Tryz.func238.trans (congrArg some (by kernel_rfl))⟩,
 f13:=⟨Tryz.f239.name,by decide,Tryz.func239.trans (congrArg some (by kernel_rfl))⟩,
 f14:=⟨Tryz.f240.name,by decide,Tryz.func240.trans (congrArg some (by kernel_rfl))⟩,
 f15:=⟨Tryz.f241.name,by decide,Tryz.func241.trans (congrArg some (by kernel_rfl))⟩,
 f16:=⟨Tryz.f242.name,by decide,Tryz.func242.trans (congrArg some (by kernel_rfl))⟩,
 f17:=⟨Tryz.f243.name,by decide,Tryz.func243.trans (congrArg some (by kernel_rfl))⟩,
 f18:=⟨Tryz.f244.name,by decide,Tryz.func244.trans (congrArg some (by kernel_rfl))⟩,
 f19:=Tryz.func245.trans (congrArg some (by kernel_rfl)),
 f20:=Tryz.func246.trans (congrArg some (by kernel_rfl)),
 f30:=⟨Tryz.f260.name,by decide,Tryz.func260.trans (congrArg some (by kernel_rfl))⟩,
 f31:=Tryz.func261.trans (congrArg some (by kernel_rfl)),
 f32:=Tryz.func262.trans (congrArg some (by kernel_rfl)),
 f33:=⟨Tryz.f263.name,by decide,Tryz.func263.trans (congrArg some (by kernel_rfl))⟩,
 f34:=⟨Tryz.f264.name,by decide,Tryz.func264.trans (congrArg some (by kernel_rfl))⟩,
 f35:=⟨Tryz.f265.name,by decide,Tryz.func265.trans (congrArg some (by kernel_rfl))⟩,
 f40:=⟨Tryz.f277.name,by decide,Tryz.func277.trans (congrArg some (by kernel_rfl))⟩,
 t0:=Tryz.underlying0,
 a0:=Tryz.isAgg0,
 z0:=Tryz.sizeOf0,
 v0:=Tryz.zeroValue0,
 t3:=Tryz.underlying3,
 a3:=Tryz.isAgg3,
 z3:=Tryz.sizeOf3,
 v3:=Tryz.zeroValue3,
 t4:=Tryz.underlying4,
 a4:=Tryz.isAgg4,
 z4:=Tryz.sizeOf4,
 v4:=Tryz.zeroValue4,
 t5:=Tryz.underlying5,
 a5:=Tryz.isAgg5,
 z5:=Tryz.sizeOf5,
 v5:=Tryz.zeroValue5,
 t9:=Tryz.underlying9,
 a9:=Tryz.isAgg9,
 z9:=Tryz.sizeOf9,
 v9:=Tryz.zeroValue9,
 t22:=Tryz.underlying23,
 a22:=Tryz.isAgg23,
 z22:=Tryz.sizeOf23,
 v22:=Tryz.zeroValue23,
 t23:=Tryz.underlying23,
 a23:=Tryz.isAgg23,
 z23:=Tryz.sizeOf23,
 v23:=Tryz.zeroValue23,
 t25:=Tryz.underlying3,
 a25:=Tryz.isAgg3,
 z25:=Tryz.sizeOf3,
 v25:=Tryz.zeroValue3,
 t32:=Tryz.underlying237,
 a32:=Tryz.isAgg237,
 z32:=Tryz.sizeOf237,
 v32:=Tryz.zeroValue237,
 t35:=Tryz.underlying278,
 a35:=Tryz.isAgg278,
 z35:=Tryz.sizeOf278,
 v35:=Tryz.zeroValue278,
 t36:=Tryz.underlying279,
 a36:=Tryz.isAgg279,
 z36:=Tryz.sizeOf279,
 v36:=Tryz.zeroValue279,
 t41:=Tryz.underlying47,
 a41:=Tryz.isAgg47,
 z41:=Tryz.sizeOf47,
 v41:=Tryz.zeroValue47,
 t44:=Tryz.underlying285,
 a44:=Tryz.isAgg285,
 z44:=Tryz.sizeOf285,
 v44:=Tryz.zeroValue285,
 t46:=Tryz.underlying183,
 a46:=Tryz.isAgg183,
 z46:=Tryz.sizeOf183,
 v46:=Tryz.zeroValue183,
 t53:=Tryz.underlying310,
 a53:=Tryz.isAgg310,
 z53:=Tryz.sizeOf310,
 v53:=Tryz.zeroValue310,
 t57:=Tryz.underlying314,
 a57:=Tryz.isAgg314,
 z57:=Tryz.sizeOf314,
 v57:=Tryz.zeroValue314,
 t63:=Tryz.underlying325,
 a63:=Tryz.isAgg325,
 z63:=Tryz.sizeOf325,
 v63:=Tryz.zeroValue325,
 t64:=Tryz.underlying82,
 a64:=Tryz.isAgg82,
 z64:=Tryz.sizeOf82,
 v64:=Tryz.zeroValue82}
theorem ZY{I:Cc}{W:World}{A T:Bd}{v:Value}{xs:List Int}(L:Nz Y0 I6 I W A v xs)(hs:St I W (A++T))(r:xs.length<4611686018427387904):Calls Y0.P 138 #[v] W λe w'=>e=.returned (.tuple #[])/\∃A',Ext I W I w'/\St I w' (A'++T)/\Nz Y0 I6 I w' A' v (xs.mergeSort λx y=>decide (x<=y)):=by
 rcases @Bx.ex _ (RT Y0.toUS I6) _ _ _ _ _ L with ⟨rfl,rfl,rfl⟩|⟨b,h,l,G,a,rfl,rfl,Y,Q,M,S⟩
 .have g:=Go.Proofs.AnyM.slices_Sort_int_none (P:=Y0.P) Atj none 0 W;change Calls Y0.P 138 _ _ _ at g;refine Calls.mono g λe w'⟨J,w⟩=>⟨J,[],?_⟩
  subst w;exact⟨Ext.refl _ _,hs,by simpa using L⟩
 .letI:AP (den Y0.D I6):=RT Y0.toUS I6
  have B:AP.size (den Y0.D I6)=1:=rfl;have m:∀j(o:j<xs.length),h[a+j]?=some (.int .i64 xs[j])/\Bn .i64 xs[j]:=λj o=>by
   obtain⟨u,hu,C⟩:=S j o;have p:=AT.1 (show rp Y0.toUS I6 I W u xs[j] from hu);have:=C 0 (by rw[p.1];exact Nat.one_pos);rw[B,p.1]at this;refine⟨?_,p.2⟩;have e:a+(j*1+0)=a+j:=by omega
   rw[<-e];exact this
  have t:=hs.heap;have s:b<W.heap.size:=(be.1 t).1;have R:Go.Sort.Holds (Value.int .i64) W b a xs.toArray:=by
   intro j o;have D:j<xs.length:=by simpa using o
   refine⟨?_,by simp [World.frozen?,t]⟩;rw[Bo t,getElem!_pos xs.toArray j o];exact(m j D).1
  have g:=Go.Proofs.AnyM.slices_Sort_int (P:=Y0.P) Atj b a l xs W R s r;change Calls Y0.P 138 _ _ _ at g;refine g.mono λe w'⟨J,n,V,w⟩=>⟨J,?_⟩
  have f:(xs.mergeSort λx y=>decide (x<=y)).Perm xs:=bc _ _;generalize O:(xs.mergeSort λx y=>decide (x<=y))=k at f w;have K:k.length=xs.length:=f.length_eq;let d:Array Value:=Go.Sort.putCells (Value.int .i64) a k.toArray h;have q:d.size=h.size:=by simp [d,Go.Sort.putCells]
  refine⟨[(b,.cells d G (0,0))],?_⟩;obtain⟨X,Z⟩:=hs.write (w':=Go.Sort.putRow (Value.int .i64) (Go.Sort.ahead W n) b a k.toArray) (o':=.cells d G (0,0)) rfl rfl rfl (by simp [Go.Sort.putRow,Go.Sort.mapBlock,Go.Sort.ahead]) (by
   show (W.heap.modify b _)[b]?=_;rw[bu,UV rfl,t];rfl) (λc C=>by
   show (W.heap.modify b _)[c]?=_;rw[bu,GT (Ne.symm C)])
  obtain⟨x2,U⟩:=Ak8 V Z;subst w;refine⟨X.trans x2,U,⟨.inr ⟨b,d,l,G,a,rfl,congrArg (λn=>Value.slice (some ⟨b,a,none⟩) n l) K.symm,c6 (Nat.le_of_eq K) Y,Q,by rw[q];exact M,λj o=>?_⟩⟩⟩;have z:Bn .i64 k[j]:=by obtain⟨i,E,e⟩:=ab.1 (f.mem_iff.1 (ae o));rw[<-e];exact(m i E).2
  refine⟨.int .i64 k[j],AT.2 ⟨rfl,z⟩,λi E=>?_⟩;have F:i=0:=by have:i<1:=E;omega
  subst F;show d[a+(j*1+0)]?=some (Value.int .i64 k[j]);have H:a+(j*1+0)<h.size:=by have h5':a+l*1<=h.size:=M;omega
  simp only[d,Go.Sort.putCells,Array.getElem?_mapIdx,Array.getElem?_eq_getElem H,Option.map_some];have hr:a<=a+(j*1+0)/\a+(j*1+0)<a+k.toArray.size:=by
   refine⟨by omega,?_⟩;have:k.toArray.size=k.length:=by simp
   omega
  rw[UV hr];have N:a+(j*1+0)-a=j:=by omega
  rw[N,getElem!_pos k.toArray j (by simpa using o)];simp
theorem TS{x:List Int}{H:HY}{X:PX}{Q:Unit->List Int×Unit->HP}(c:x.length<4611686018427387904)(h:Q () (x.mergeSort λa b=>decide (a<=b),()) H):qK C9 Cd (x,()) H Q X:=by intro I w T A g s n l m;obtain⟨v,o,p,t,rfl,rfl,q,rfl,rfl⟩:=n;have j:=ZY (T:=g++T) q (m.perm (by simpa using ai g p T)) c;refine Calls.mono j λe u⟨r,f,d,k,i⟩=>.inl ⟨_,I,r,d,g,f,H,?_,l.mono d,(),(x.mergeSort λa b=>decide (a<=b),()),[],[],f,rfl,rfl,⟨rfl,rfl⟩,⟨v,[],f,[],rfl,by simp,i,rfl⟩,h⟩;exact k.perm (ai f g T)
end
end Go.Proofs.YtcbkbpjlbmalmaaGreatDoor
namespace Go.Proofs.YtcbkbpjlbmalmaaGreatDoor
open Go Go.X Go.Y
section
abbrev YL(l c:Nat)(r:Loop):FT Y0 [.int .i64] [.bool]:=λ(a:Int×Unit)(H:HY)(Q:Bool×Unit->HP)(_:Nat->Lf Y0.D->HP)=>H l=some (Ob.lp r)/\H l=some (Ob.lp r)/\∃(x:List Int),Ab H l (Ob.lp (CF r)) c=some (Ob.st Am x)/\(x.length+[a.1].length)*8<=140737488355328/\Ab (Ab H l (Ob.lp (CF r))) c (Ob.st Am (x++[a.1])) l=some (Ob.lp (CF r))/\Q (true,()) (Ab (Ab (Ab H l (Ob.lp (CF r))) c (Ob.st Am (x++[a.1]))) l (Ob.lp r))
variable {b l c:Nat} {r:Loop} {m:List (Int×Int)} {H0:HY} {X:PX} {Q:Unit->UU}
theorem XJ{g:Int×Int->Int}(s:H0 b=some (.mp I6 I6 m))(A:H0 c=none)(v:H0 l=none)(n:l≠c)(C:m.length<=1000000)(h:∀x:List Int,x.Perm (m.map g)->Q () () (Ab (Ab H0 c (Ob.st Am x)) l (Ob.lp r))):∃(V:List (Int×Int)->UU),(True/\V m () (C0 (Ab (Ab H0 c (Ob.st Am [])) l (Ob.lp r)) b))/\∀(a:List (Int×Int))(x:Unit)(H:HY),V a x H->(a=[]->Q () () (Ab H b (Ob.mp (Ty.int .i64) (Ty.int .i64) m)))/\∀(o:List (Int×Int))(p:Int×Int)(q:List (Int×Int)),a=o++p::q->YL l c r (g p,()) H (λ(i:Bool×Unit)(y:HY)=>(¬i.1=true->Q () () (Ab y b (Ob.mp (Ty.int .i64) (Ty.int .i64) m)))/\(¬¬i.1=true->True/\V (o++q) () y)) X:=by
 have f:b≠c:=λe=>by grind
 have d:b≠l:=λe=>by grind
 refine⟨λa _ H=>∃x:List Int,H=C0 (Ab (Ab H0 c (Ob.st Am x)) l (Ob.lp r)) b/\(x++a.map g).Perm (m.map g),⟨trivial,[],rfl,by simp⟩,?_⟩;rintro a u H ⟨x,rfl,t⟩;refine⟨λe=>?_,λo p q e=>?_⟩
 .subst e;have j:Ab (C0 (Ab (Ab H0 c (Ob.st Am x)) l (Ob.lp r)) b) b (Ob.mp (Ty.int .i64) (Ty.int .i64) m)=Ab (Ab H0 c (Ob.st Am x)) l (Ob.lp r):=by grind[Ab,C0]
  grind
 .subst e;have w:x.length<=1000000:=by have:=t.length_eq;grind
  refine⟨by simp [Ab,C0,Ne.symm d],by simp [Ab,C0,Ne.symm d],x,by simp_all[Ab,C0,Ne.symm],by grind,by grind[Ab],λB=>qG rfl B,λ_=>⟨trivial,x++[g p],?_,?_⟩⟩
  .funext k;by_cases j:k=l
   .simp_all[Ab,C0,Ne.symm]
   .by_cases z:k=c;all_goals simp_all[Ab,C0,Ne.symm]
  grind
theorem Anf(a:H0 b=some (.mp I6 I6 m))(g:H0 c=none)(j:H0 l=none)(f:l≠c)(k:m.length<=1000000)(h:∀x:List Int,x.Perm (m.map (·.1))->Q () () (Ab (Ab H0 c (Ob.st Am x)) l (Ob.lp r))):qK AU AM (YL l c r,some b,()) (Ab (Ab H0 c (Ob.st Am [])) l (Ob.lp r)) Q X:=by
 have d:b≠c:=λe=>by grind
 have i:b≠l:=λe=>by grind
 apply Iz;unfold Ek;exact⟨b,rfl,m,by grind[Ab],trivial,XJ a g j f k h⟩
theorem Ade(a:H0 b=some (.mp I6 I6 m))(g:H0 c=none)(j:H0 l=none)(f:l≠c)(k:m.length<=1000000)(h:∀x:List Int,x.Perm (m.map (·.2))->Q () () (Ab (Ab H0 c (Ob.st Am x)) l (Ob.lp r))):qK Be AS (YL l c r,some b,()) (Ab (Ab H0 c (Ob.st Am [])) l (Ob.lp r)) Q X:=by
 have d:b≠c:=λe=>by grind
 have i:b≠l:=λe=>by grind
 apply HE;unfold DO;exact⟨b,rfl,m,by grind[Ab],trivial,XJ a g j f k h⟩
def AI(m:List (Int×Int)):List Int:=(m.map (·.1)).mergeSort λa b=>decide (a<=b)
theorem R7{x y:List Int}(h:x.Perm y):(x.mergeSort λa b=>decide (a<=b))=y.mergeSort λa b=>decide (a<=b):=by grind[List.Perm.eq_of_pairwise,bc,trans,List.pairwise_mergeSort]
theorem DW(m:List (Int×Int)):(AI m).Perm (m.map (·.1)):=bc _ _
theorem Pd(m:List (Int×Int)):(AI m).length=m.length:=by rw[(DW m).length_eq,ao]
theorem JB{H:HY}{D:Nat->Nat->Loop->HP}{P:Nat->Nat->Loop->Unit->List Int×Unit->HP}(q:H b=some (.mp I6 I6 m))(o:m.length<=1000000)(h:∀c l r d,H l=none->P c l r () (AI m,()) (Ab H l (Ob.lp d))):∀(c:Nat),H c=none->∀(l:Nat)(r:Loop),Ab H c (Ob.st Am []) l=none->qK AU AM (YL l c r,some b,()) (Ab (Ab H c (Ob.st Am [])) l (Ob.lp r)) (λ(_ _:Unit)(g:HY)=>(g l=some (Ob.lp r)/\∀(d:Loop),∃(x:List Int),Ab g l (Ob.lp d) c=some (Ob.st Am x)/\qK C9 Cd (x,()) (C0 (Ab g l (Ob.lp d)) c) (P c l r) X)∨D c l r g) X:=by
 intro c n l r i;have a:l≠c:=λe=>by grind[Ab]
 have f:H l=none:=by simp_all[Ab]
 refine Anf q n f a o λx j=>.inl ⟨by simp [Ab],λd=>⟨x,by simp [Ab,Ne.symm a],?_⟩⟩;have p:C0 (Ab (Ab (Ab H c (Ob.st Am x)) l (Ob.lp r)) l (Ob.lp d)) c=Ab H l (Ob.lp d):=by funext k;simp_all[Ab,C0,Ne.symm]
 rw[p];refine TS (by have:=j.length_eq;grind) ?_;rw[R7 j];exact h c l r d f
end
section
set_option maxRecDepth 100000
set_option maxHeartbeats 2000000
def MB(w:Option Nat)(BD:List Int)(H:HY)(Q:Int×UT->UU)(X:PX):=
 ∃(b:Nat),w=some b/\∃(x:Al),H b=some (Ob.st BJ x)/\((if 0=0 then some (C4.blk (Y:=Y0) [AV.dat Ty.ptr x.m,AV.dat (Ty.u 0).sl x.l.Aa,AV.dat (Ty.int .i64).sl x.l.Bits,AV.dat (Ty.int .i64).sl x.l.At,AV.own (1),AV.dat
 (Ty.int .i64) x.e]) else none)=some (C4.blk (Y:=Y0) [AV.dat Ty.ptr x.m,AV.dat (Ty.u 0).sl x.l.Aa,AV.dat (Ty.int .i64).sl x.l.Bits,AV.dat (Ty.int .i64).sl x.l.At,AV.own (1),AV.dat (Ty.int .i64) x.e])/\True)/\∃(V:List (Int×Bool)->UU),
 ({i:=0,b:=b,n:=1,x:=none:Wr Y0}={i:=0,b:=b,n:=1,x:=none:Wr Y0}/\((if 0=0 then some (C4.blk (Y:=Y0) [AV.dat Ty.ptr x.m,AV.dat (Ty.u 0).sl x.l.Aa,AV.dat (Ty.int .i64).sl x.l.Bits,AV.dat (Ty.int .i64).sl x.l.At,AV.own
 (1),AV.dat (Ty.int .i64) x.e]) else none)=some (C4.blk (Y:=Y0) [AV.dat Ty.ptr x.m,AV.dat (Ty.u 0).sl x.l.Aa,AV.dat (Ty.int .i64).sl x.l.Bits,AV.dat (Ty.int .i64).sl x.l.At,AV.own (1),AV.dat (Ty.int .i64) x.e])/\True)/\V x.live () H)/\∀(left :
 List (Int×Bool)) (x_1:Unit) (H_1:HY),V left x_1 H_1->(left=[]->Q (x.e,()) () (Ab H_1 b (Ob.st BJ x)))/\∀(l1:List (Int×Bool))(p:Int×Bool)(l2:List (Int×Bool)),left=l1++p::l2->(¬x.e=(0:Int)->qK FC E7 (x.m,
 [p.1],()) (C0 H_1 b) (λ(_:Int×Unit)_ H'=>H' b=none->{i:=0,b:=b,n:=1,x:=none:Wr Y0}={i:=0,b:=b,n:=1,x:=none:Wr Y0}/\((if 2=0 then some (C4.tp (Y:=Y0) [AV.dat (Ty.int .i64) p.1,
 AV.dat Ty.bool p.2]) else if 0=0 then some (C4.blk (Y:=Y0) [AV.dat Ty.ptr x.m,AV.dat (Ty.u 0).sl x.l.Aa,AV.dat (Ty.int .i64).sl x.l.Bits,AV.dat (Ty.int .i64).sl x.l.At,if 1=4 then AV.dat (Ty.int .i64).sl [p.1] else AV.own (nat_lit
 1),AV.dat (Ty.int .i64) x.e]) else none)=some (C4.blk (Y:=Y0) [AV.dat Ty.ptr x.m,AV.dat (Ty.u 0).sl x.l.Aa,AV.dat (Ty.int .i64).sl x.l.Bits,AV.dat (Ty.int .i64).sl x.l.At,AV.own (1),AV.dat (Ty.int .i64) x.e])/\True)/\V (l1++l2) () (Hq H' b (H_1 b))) X)
 /\(¬¬x.e=(0:Int)->qK Hc Em (BD,p.1,()) (C0 H_1 b) (λ(b_1:Bool×Unit)_ H'=>H' b=none->(¬b_1.1=true->qK FC E7 (x.m,[p.1],()) (C0 (Hq H' b (H_1 b))
 b) (λ(_:Int×Unit)(_:Unit)(H'_1:HY)=>H'_1 b=none->{i:=0,b:=b,n:=1,x:=none:Wr Y0}={i:=0,b:=b,n:=1,x:=none:Wr Y0}/\((if 2=0 then some (C4.tp (Y:=Y0) [AV.dat (Ty.int .i64) p.1,AV.dat Ty.bool p.2])
 else if 0=0 then some (C4.blk (Y:=Y0) [AV.dat Ty.ptr x.m,AV.dat (Ty.u 0).sl x.l.Aa,AV.dat (Ty.int .i64).sl x.l.Bits,AV.dat (Ty.int .i64).sl x.l.At,if 1=4 then AV.dat (Ty.int .i64).sl [p.1] else AV.own (1),AV.dat (Ty.int
 .i64) x.e]) else none)=some (C4.blk (Y:=Y0) [AV.dat Ty.ptr x.m,AV.dat (Ty.u 0).sl x.l.Aa,AV.dat (Ty.int .i64).sl x.l.Bits,AV.dat (Ty.int .i64).sl x.l.At,AV.own (1),AV.dat (Ty.int .i64) x.e])/\True)/\V (l1++l2) () (Hq H'_1 b (Hq H' b (H_1 b) b))) X)/\
 (¬¬b_1.1=true->{i:=0,b:=b,n:=1,x:=none:Wr Y0}={i:=0,b:=b,n:=1,x:=none:Wr Y0}/\((if 2=0 then some (C4.tp (Y:=Y0) [AV.dat (Ty.int .i64) p.1,AV.dat Ty.bool p.2]) else if 0=0 then some (C4.blk (Y
 :=Y0) [AV.dat Ty.ptr x.m,AV.dat (Ty.u 0).sl x.l.Aa,AV.dat (Ty.int .i64).sl x.l.Bits,AV.dat (Ty.int .i64).sl x.l.At,AV.own (1),AV.dat (Ty.int .i64) x.e]) else none)=some (C4.blk (Y:=Y0) [AV.dat Ty.ptr x.m,AV.dat (Ty.u 0).sl x.l.Aa,AV.dat (Ty.int .i64).sl
 x.l.Bits,AV.dat (Ty.int .i64).sl x.l.At,AV.own (1),AV.dat (Ty.int .i64) x.e])/\True)/\V (l1++l2) () (Hq H' b (H_1 b)))) X)
def Ya(s:List Int)(v:Int)(H:HY)(Q:Bool×UT->UU)(X:PX):=qK CX Fk (s,v,()) H (λ(b:Int×UT)_ G=>Q (decide (0<=b.1),()) () G) X
theorem Aew s v H Q X(h_:Ya s v H Q X):qK Hc Em (s,v,()) H Q X:=wF Tryz.f109 {} h_
end
section
variable {H:HY} {X:PX}
theorem Aje{s:List Int}{v:Int}{Q:Int×Unit->UU}(hs:s.length<=1000000)(h:∀i:Int,(0<=i↔v∈s)->Q (i,()) () H):qK CX Fk (s,v,()) H Q X:=by
 refine wF Tryz.f173 {lp:=[(2,⟨[(8,.one (.dat I6))],[0,1,7],false⟩)]} (?_:s.length<=2^63-1->∃(V:Nat->Int×UT->Prop),(∃(n:Nat),H=H/\V n (0,()))/\∀n x,V n x->(x.1<(↑s.length:Int)->IK x.1->(IK x.1->0<=x.1)/\∃(h:x.1.toNat<s.length),(v=s[x.1.toNat]->Q (x.1,()) () H)/\(¬v=s[x.1.toNat]->IK x.1->IK (x.1+1)/\∃m,m<n/\H=H/\V m (x.1+1,())))/\(¬x.1<(↑s.length:Int)->Q (-1,()) () H));refine λ_=>⟨λn z=>∃k:Nat,z.1=(k:Int)/\k<=s.length/\n=s.length-k/\v∉s.take k,⟨s.length,rfl,0,rfl,aa _,rfl,by simp⟩,?_⟩
 rintro n ⟨i,u⟩ ⟨k,c,r,q,f⟩;have j:i=(k:Int):=c;subst j;clear c;have p:((k:Int)).toNat=k:=by omega
 refine⟨λa l=>?_,λa=>?_⟩
 .have a:(k:Int)<(s.length:Int):=a;have b:k<s.length:=by omega
  have m:∀(o:((k:Int)).toNat<s.length),s[((k:Int)).toNat]=s[k]:=λo=>by congr 1
  refine⟨λ_=>by omega,by omega,λe=>?_,λe _=>?_⟩
  .grind
  .have e:¬v=s[((k:Int)).toNat]'(by omega):=e;refine⟨A7.2 (by omega),s.length-(k+1),by omega,rfl,k+1,by rfl,b,rfl,?_⟩;rw[a8 b,aj,ad];grind
 grind
theorem Z2{s:List Int}{v:Int}{Q:Bool×Unit->UU}(hs:s.length<=1000000)(h:Q (decide (v∈s),()) () H):qK Hc Em (s,v,()) H Q X:=by grind[Aew,Ya,Aje]
theorem MG.at_{H':HY}{b c:Nat}{M:Mn}(h:MG H b M)(n:Fb b M c)(e:∀d,d≠c->H' d=H d):MG H' b M:=by
 refine⟨⟨?_,⟨?_,?_,?_,h.h.st.nd,λv a=>?_⟩,?_⟩,h.i,h.v,h.e,h.n8,h.rm⟩
 .rw[e _ n.b.symm];exact h.h.ob
 .rw[e _ n.sb.symm];exact h.h.st.st
 .rw[e _ n.bl.symm];exact h.h.st.lv
 .rw[e _ n.bp.symm];exact h.h.st.po
 .rw[e _ λe=>n.tb (by grind)];exact h.h.st.ta v a
 .rw[e _ n.mb.symm];exact h.h.me
structure Apk(M0 M M':Mn)(lv:List (Int×Bool))(BD:List Int):Prop where
 bs:Dx M M'
 nx:M'.nx=M.nx
 Aq:∀k,M'.Aq k=if (Ad lv k).isSome=true/\k∉BD then none else M.Aq k
 ln:M'.hs.length=M0.hs.length+(lv.filter λp=>decide (p.1∈BD)).length
theorem T6{wb b:Nat}{M0 M:Mn}{L:Ac}{lv:List (Int×Bool)}{BD:List Int}{Q:Int×Unit->UU}(w:WK H wb b M0 M L lv)(hn:M.nx<576460752303423486)(hk:BD.length<=1000000)(h:∀M' H',MG H' b M'->Apk M0 M M' lv BD->QK wb b M H H'->Q (0,()) () H'):qK J2 GL (some wb,BD,()) H Q X:=by
 refine wFS Tryz.f43 {lp:=[(2,⟨[],[0,1,10],true⟩)],oc:=[32,23]} (?_:MB (some wb) BD H Q X);unfold MB;let V:List (Int×Bool)->HP:=λf H'=>∃M',H' wb=H wb/\MG H' b M'/\Dx M M'/\M'.nx=M.nx/\(f.map (·.1)).Nodup/\(∀p∈f,p∈lv)/\(∀k,M'.Aq k=if (Ad lv k).isSome=true/\k∉BD/\k∉f.map (·.1) then none else M.Aq k)/\M'.hs.length+(f.filter λp=>decide (p.1∈BD)).length=M0.hs.length+f.length+(lv.filter λp=>decide (p.1∈BD)).length/\QK wb b M H H';have v:∀p∈lv,(Ad lv p.1).isSome=true:=λp U=>by rw[Gz w.nd U];rfl
 have A:∀k,M.Aq k=if (Ad lv k).isSome=true/\k∉BD/\k∉lv.map (·.1) then none else M.Aq k:=λk=>by rw[GT];rintro⟨P,_,h3⟩;rw[Er.2 h3]at P;cases P
 have hV0:V lv H:=⟨M,rfl,w.mg,⟨rfl,rfl,rfl,rfl,rfl⟩,rfl,w.nd,λ_ h=>h,A,by have:=w.ln;omega,.refl⟩
 refine⟨wb,rfl,_,w.ob,⟨rfl,trivial⟩,λf _ H'=>V f H',⟨rfl,⟨rfl,trivial⟩,hV0⟩,?_⟩;rintro f u j ⟨M',G,g,O,nx,nd,I,r,ln,fr⟩;have S:j wb=some (.st BJ ({m:=some b,l:=L,live:=lv,e:=0}:Al)):=G.trans w.ob;have D:Ab j wb (.st BJ ({m:=some b,l:=L,live:=lv,e:=0}:Al))=j:=by
  funext c;unfold Ab;split
  .rename_i e;rw[e,S]
  .rfl
 have wn:Fb b M' wb:=w.wn.same O;refine⟨λe=>?_,λt p z e=>⟨λhe=>qG rfl he,λ_=>?_⟩⟩
 .subst e;show Q (0,()) () (Ab j wb _);rw[D];refine h M' j g ⟨O,nx,λk=>?_,by simpa using ln⟩ fr;rw[r];simp
 .subst e;have T:p∈lv:=I p (by simp);have C:p.1∉(t++z).map (·.1)/\((t++z).map (·.1)).Nodup:=by have P:((p::(t++z)).map (·.1)).Nodup:=((List.perm_middle (l₁:=t) (a:=p) (l₂:=z)).map λx=>x.1).nodup_iff.1 nd;rw[av,bt]at P;exact P
  have i:∀k,k∈(t++p::z).map (·.1)↔k=p.1∨k∈(t++z).map (·.1):=λk=>by
   simp only[ac,av,aj,au];constructor
   .rintro(a|a|a)
    .exact .inr (.inl a)
    .exact .inl a
    .exact .inr (.inr a)
   .rintro(a|a|a)
    .exact .inr (.inl a)
    .exact .inl a
    .exact .inr (.inr a)
  have N:((t++p::z).filter λp=>decide (p.1∈BD)).length=((t++z).filter λp=>decide (p.1∈BD)).length+if p.1∈BD then 1 else 0:=by
   simp only[List.filter_append,aw,List.filter_cons];by_cases U:p.1∈BD
   .simp [U];omega
   .simp [U]
  have hll:(t++p::z).length=(t++z).length+1:=by simp;omega
  have B:∀q∈t++z,q∈lv:=λq hq=>I q (by
   rcases aj.1 hq with a|a
   .exact ah _ a
   .exact ag _ (az _ a))
  have K:∀{H':HY}{o:Option (Ob Y0)},Hq H' wb o wb=o:=λ{H' o}=>UV rfl;have gd:MG (C0 j wb) b M':=g.at_ wn λd hd=>by unfold C0;rw[GT hd]
  refine Z2 hk λhd0=>⟨λZ=>?_,λZ=>?_⟩
  .have y:p.1∉BD:=λs=>Z (decide_eq_true s);have hlv:=w.live (v p T);obtain⟨g1,g2,g3,F,hF⟩:=hlv;have W:M'.Aq p.1=some F:=by rw[r,GT λn=>n.2.2 ((i p.1).2 (.inl rfl))];exact hF
   have R:C0 (Hq (C0 j wb) wb (j wb)) wb=C0 j wb:=by
    funext c;by_cases e:c=wb
    .simp [C0,e]
    .simp [C0,Hq,e]
   rw[R];refine RE (M:=M') gd (by omega) g3 W λM2 H2 e Y J f2 hnone=>⟨rfl,⟨rfl,trivial⟩,M2,?_,?_,O.trans J.bs,J.nx.trans nx,C.2,B,λk=>?_,?_,?_⟩
   .show Hq H2 wb (Hq (C0 j wb) wb (j wb) wb) wb=_;rw[K,K];exact G
   .exact Y.at_ (wn.same J.bs) λd hd=>by unfold Hq;rw[GT hd]
   .rw[J.Aq,r];by_cases E:k=p.1
    .subst E;rw[UV rfl,UV ⟨v p T,y,C.1⟩]
    .rw[GT E];refine ite_congr (propext ⟨λn=>⟨n.1,n.2.1,λs=>n.2.2 ((i k).2 (.inr s))⟩,λn=>⟨n.1,n.2.1,λs=>((i k).1 s).elim E n.2.2⟩⟩) (λ_=>rfl) (λ_=>rfl)
   .have:=J.ln;rw[GT y]at N;omega
   .refine fr.trans λc a0 a1 a2=>?_;show Hq H2 wb _ c=j c;unfold Hq;rw[GT a1];have:=f2.at (c:=c) (by unfold C0;rw[GT a1];exact a0) (a2.same O);rw[this];unfold C0;rw[GT a1]
  .have y:p.1∈BD:=ar λs=>Z λn=>s (of_decide_eq_true n);have R:Hq (C0 j wb) wb (j wb)=j:=by
    funext c;by_cases e:c=wb
    .simp [Hq,e]
    .simp [C0,Hq,e]
   refine⟨rfl,⟨rfl,trivial⟩,M',?_,?_,O,nx,C.2,B,λk=>?_,?_,?_⟩
   .show Hq (C0 j wb) wb (j wb) wb=_;rw[R];exact G
   .show MG (Hq (C0 j wb) wb (j wb)) b M';rw[R];exact g
   .rw[r];refine ite_congr (propext ⟨λn=>⟨n.1,n.2.1,λs=>n.2.2 ((i k).2 (.inr s))⟩,λn=>⟨n.1,n.2.1,λs=>((i k).1 s).elim (λe=>n.2.1 (e▸y)) n.2.2⟩⟩) (λ_=>rfl) (λ_=>rfl)
   .rw[UV y]at N;omega
   .show QK wb b M H (Hq (C0 j wb) wb (j wb));rw[R];exact fr
end
section
variable {L:Ac} {H:HY} {X:PX}
theorem Lw{b:Nat}{M:Mn}{Q:Option Nat×Int×Unit->UU}(f:MG H b M)(i:Jf L)(u:M.S.n<2*CR L->Q (none,9,()) () H)(q:2*CR L<=M.S.n->∀wb H',H wb=none->WK H' wb b M M L []->(∀c,c≠wb->H' c=H c)->Q (some wb,0,()) () H'):qK JO HB (some b,L,()) H Q X:=by
 refine wF Tryz.f40 {pr:=[(20,1)],im:=[3]} (?_:((some b)=none->Q (none,5,()) () H)/\(¬(some b)=none->qK E9 DM ((some b),()) H (λ(a:Int×UT)_ G=>qK Ik Fo (L,()) G (λ(b1:Int×UT)_ G=>IK b1.1->IK (2*b1.1)/\(a.1<2*b1.1->Q (none,9,()) () G)/\(¬a.1<2*b1.1->∀(a:Nat),G a=none->Q (some a,0,()) () (Ab G a (Ob.st BJ {m:=(some b),l:=L,live:=[],e:=0:Al})))) X) X));have v:=i.sum (an _);have t:=i.ln;have o:=i.lb;refine⟨λr=>qG r (by simp),λ_=>L7 f.h f.i (Sd i λ_=>⟨A7.2 ?_,λa=>u a,λa wb h=>?_⟩)⟩
 .grind[CR]
 .have a:¬(M.S.n:Int)<2*CR L:=a;have l:Fb b M wb:=f.h.notM h;have g:∀k,M.nx<=k->M.Aq k=none:=λk n=>by
   cases e:M.Aq k with
   |none=>rfl
   |some F=>
    obtain⟨x,j,_⟩:=Mn.Es e;have:=(f.i.ok k x j).2.2;omega
  refine q (by omega) wb _ h ⟨Ai _ _ _,f.at_ l λd p=>Ag _ _ p,⟨rfl,rfl,rfl,rfl,rfl⟩,?_,ce _,by simp [N9],by simp,λk _=>⟨rfl,rfl⟩,λk n=>⟨λm=>qG m (by simp [Ad]),λm=>qG (g k n) m⟩,by simp⟩ λc s=>Ag _ _ s;obtain⟨x,j,_⟩:=Mn.Es f.i.Atw;have:=(f.i.ok 1 x j).2.2;omega
theorem Ny{v:Ar}{Q:Int×Int×Unit->UU}(h:Q (if v.Bool=true then 0 else v.Lo,if v.Bool=true then 1 else v.Hi,()) () H):qK IY Gu (v,()) H Q X:=by grind[Apq,Aj9]
def WW(n:Int)(k:Nat):Bool:=decide (C3 BinOp.and .i64 (n.fdiv (2^min ((k:Int)).toNat 64)) (1:Int)=(1:Int))
def Gf(vars:List Int)(n:Int):List BI:=(am vars.length).map λ(k:Nat)=>{Var:=vars.getD k 0,Ss:=WW n k}
theorem Mh(vars:List Int)(n:Int):(Gf vars n).length=vars.length:=by unfold Gf;simp
variable {n:Int}
theorem Mi{vars:List Int}{k:Nat}(h:k<vars.length):(Gf vars n)[k]?=some {Var:=vars[k],Ss:=WW n k}:=by grind[Gf]
theorem Qs{vars:List Int}:(Gf vars n).map (·.Var)=vars:=by
 apply c9;intro k;rw[bh];by_cases h:k<vars.length
 .rw[Mi h,a7 h];rfl
 .rw[ax (by rw[Mh];omega),ax (by omega)];rfl
def Cu(L:Ac)(i:Nat)(next:Bool):List Int:=if next=true then (Mq L i).map (·+1) else Mq L i
def DL(L:Ac)(i:Nat)(n:Int):Int:=match L.Aa[i]? with
 |some v=>if v.Bool=true then n else n-v.Lo
 |none=>n
variable {i:Nat}
theorem Age:(Mq L i).Nodup:=by unfold Mq;refine ca _ ?_ (bj (n:=((L.Bits[i]?).getD 0).toNat));intro a c b h;have h:2*((L.At[i]?).getD 0+(a:Int))=2*((L.At[i]?).getD 0+(c:Int)):=h;omega
theorem Rk(b:Jf L)(hi:i<L.Aa.length){next:Bool}:(Cu L i next).length<=30/\(Cu L i next).Nodup/\∀v∈Cu L i next,0<=v/\v<2*CR L:=by
 unfold Cu;split
 .refine⟨by grind[ao,Vk],ca _ (λa c d h=>by omega) (Age (L:=L) (i:=i)),λv e=>?_⟩;obtain⟨u,f,rfl⟩:=ak.1 e;have:=Vj b hi f;omega
 .refine⟨Vk b hi,Age,λv e=>?_⟩;have:=Vj b hi e;omega
theorem Yu{wb b:Nat}{M0 M:Mn}{lv:List (Int×Bool)}{next:Bool}{Q:Int×Unit->UU}(w:WK H wb b M0 M L lv)(hn:M.nx<576460752303423487)(S:M.hs.length<=60000)(D:Jf L)(hi:i<L.Aa.length)(O:2*CR L<=M.S.n)(P:Bn .i64 (DL L i n))(h:∀M' lv' H',WK H' wb b M0 M' L lv'->Dx M M'->Used M M' lv lv' [] (DQ (Gf (Cu L i next) (DL L i n)))->QK wb b M H H'->Q (M.nx,()) () H'):qK BG B3 (some wb,(i:Int),n,next,()) H Q X:=by
 refine wF Tryz.f63 {lp:=[(8,⟨[(10,.one (.own (.u 11))),(52,.nat)],[0,2,10,50,51],true⟩)],jn:=[(19,⟨[(9,.one (.dat (.sl I6)))],[0,1,2,3],true⟩),(35,⟨[(2,.one (.dat I6))],[0,1,3,9],true⟩)]} (?_:∃(b:Nat),(some wb)=some b/\∃(x:Al),H b=some (Ob.st BJ x)/\{x with l:={Aa:=x.l.Aa,Bits:=x.l.Bits,At:=x.l.At:Ac}}=x/\qK GV ET ({Aa:=x.l.Aa,Bits:=x.l.Bits,At:=x.l.At:Ac},(i:Int),()) H (λ(b1:List Int×UT)_ G=>∃(M:List Int×UT->HP),(∀x H,M x H->∃(x1:Al),H b=some (Ob.st BJ x1)/\(IK (i:Int)->(IK (i:Int)->0<=(i:Int))/\∃(h:(i:Int).toNat<x1.l.Aa.length),{x1 with l:={Aa:=x1.l.Aa,Bits:=x1.l.Bits,At:=x1.l.At:Ac}}=x1/\∃(M:Int×UT->HP),(∀x2 H,M x2 H->x.1.length<=2^63-1->x.1.length<=2^63-1->x.1.length<=2^63-1->(0:Int)<=(↑x.1.length:Int)/\(↑x.1.length:Int)=(↑x.1.length:Int)/\(↑x.1.length:Int).toNat*16<=281474976710656/\(x.1.length<=2^63-1->∃(V:Nat->List BI×Nat×UT->HP),(∃(n:Nat),V n (List.replicate (↑x.1.length:Int).toNat {Var:=0,Ss:=false:BI},0,()) H)/\∀n x3 H,V n x3 H->(x3.2.1<x.1.length->x3.2.1<=2^63-1->∃(h:x3.2.1<x.1.length),IK x2.1->x3.2.1<=2^63-1->(BinOp.shr=BinOp.shr->IK x2.1)/\(0:Int)<=(↑x3.2.1:Int)/\(IK (x2.1.fdiv (2^min (↑x3.2.1:Int).toNat 64))->x3.2.1<=2^63-1->∃(h1:x3.2.1<x3.1.length),x3.2.1<x3.1.length/\x3.2.1+1<=(2^63-1:Nat)/\∃m,m<n/\V m (x3.1.set x3.2.1 {Var:=x.1[x3.2.1],Ss:=decide (C3 BinOp.and .i64 (x2.1.fdiv (2^min (↑x3.2.1:Int).toNat 64)) (1:Int)=1):BI},x3.2.1+1,()) H))/\(¬x3.2.1<x.1.length->∃(x:Al),H b=some (Ob.st BJ x)/\{x with l:={Aa:=x.l.Aa,Bits:=x.l.Bits,At:=x.l.At:Ac}}=x/\qK J1 Ib (x.m,x3.1,()) H (λ(b:Int×Int×UT)_ G=>qK AJ AD ((some wb),b.1,b.2.1,()) G (λ(b:Int×UT)_ G=>Q (b.1,()) () G) X) X)))/\(¬x1.l.Aa[(i:Int).toNat].Bool->∃(x:Al),H b=some (Ob.st BJ x)/\(IK (i:Int)->(IK (i:Int)->0<=(i:Int))/\∃(h:(i:Int).toNat<x.l.Aa.length),IK n->IK x.l.Aa[(i:Int).toNat].Lo->IK (n-x.l.Aa[(i:Int).toNat].Lo)/\{x with l:={Aa:=x.l.Aa,Bits:=x.l.Bits,At:=x.l.At:Ac}}=x/\M (n-x.l.Aa[(i:Int).toNat].Lo,()) H))/\(¬¬x1.l.Aa[(i:Int).toNat].Bool->M (n,()) H)))/\(next->∃(x:Al),G b=some (Ob.st BJ x)/\{x with l:={Aa:=x.l.Aa,Bits:=x.l.Bits,At:=x.l.At:Ac}}=x/\qK IV FV ({Aa:=x.l.Aa,Bits:=x.l.Bits,At:=x.l.At:Ac},(i:Int),()) G (λ(b:List Int×UT)_ G=>M (b.1,()) G) X)/\(¬next->M (b1.1,()) G)) X);have R:((i:Int)).toNat=i:=by omega
 obtain⟨v1,v2,Y⟩:=Rk D hi (next:=next);have U:∀a:List Int,a=Cu L i next->∀(C:List Int×Unit->HP),(C=λx r=>x.1=a/\r=H)->C (a,()) H:=λa _ C hM=>by subst hM;exact⟨rfl,rfl⟩
 refine⟨wb,rfl,_,w.ob,rfl,QH D hi ⟨λx r=>x.1=Cu L i next/\r=H,?_,λI=>⟨_,w.ob,rfl,TK D hi ⟨by unfold Cu;rw[UV I],rfl⟩⟩,λI=>⟨by unfold Cu;rw[GT I],rfl⟩⟩⟩;rintro⟨a,u⟩ r ⟨E,rfl⟩;have E:a=Cu L i next:=E;subst E;refine⟨_,w.ob,λ_=>⟨λ_=>by omega,by show ((i:Int)).toNat<L.Aa.length;omega,rfl,λx G=>x.1=DL L i n/\G=r,?_,λd=>?_,λd=>?_⟩⟩
 .rintro⟨N,u2⟩ G ⟨l,rfl⟩;have l:N=DL L i n:=l;subst l;generalize Cu L i next=a at *;generalize DL L i n=N at *;refine λ_ _ _=>⟨by omega,rfl,by show ((a.length:Int)).toNat*16<=_;omega,λ_=>⟨λm z K=>m=a.length-z.2.1/\z.2.1<=a.length/\K=G/\z.1.length=a.length/\∀j,j<z.2.1->z.1[j]?=(Gf a N)[j]?,⟨_,rfl,aa _,rfl,by simp,λj A=>qG A (cf _)⟩,?_⟩⟩
  rintro m ⟨s,k,u3⟩ K ⟨o,v,rfl,q,y⟩;have F:m=a.length-k:=o;have hk:k<=a.length:=v;have W:s.length=a.length:=q;have A:∀j,j<k->s[j]?=(Gf a N)[j]?:=y;refine⟨λc _=>?_,λc=>?_⟩
  .have c:k<a.length:=c;refine⟨c,λ_ _=>⟨λ_=>P,by show (0:Int)<=(k:Int);omega,λ_ _=>⟨by show k<s.length;omega,by grind,by grind,a.length-(k+1),by omega,rfl,by grind,rfl,by grind,λj p=>?_⟩⟩⟩;have p:j<k+1:=p;show (s.set k _)[j]?=_;rw[List.getElem?_set];by_cases e:k=j
   .subst e;rw[UV rfl,UV (by omega),Mi c];rfl
   .rw[GT e];exact A j (by omega)
  .have c:¬k<a.length:=c;have hk2:k=a.length:=by omega
   have J:s=Gf a N:=by apply c9;grind[ax,Mh]
   refine⟨_,w.ob,rfl,?_⟩;show qK J1 Ib (some b,s,()) K _ X;rw[J];refine TM w.mg hn S (by grind) (λt ht=>?_) (by rw[Qs];exact v2) λM' H' g nw f=>L2 w g nw f λlv' B w2 Z V T=>h M' lv' B w2 Z V T;grind[Gf,bb,Qs]
 .have d:¬(L.Aa[((i:Int)).toNat]'(by omega)).Bool=true:=d;refine⟨_,w.ob,λ_=>⟨λ_=>by omega,by grind,λ_ _=>?_⟩⟩;have e:DL L i n=n-(L.Aa[((i:Int)).toNat]'(by omega)).Lo:=by unfold DL;simp only[R]at d ⊢;rw[a7 hi];simp only;rw[GT d]
  grind
 .have d:¬¬(L.Aa[((i:Int)).toNat]'(by omega)).Bool=true:=d;have e:DL L i n=n:=by unfold DL;simp only[R]at d;rw[a7 hi];simp only;rw[UV (bg.1 d)]
  grind
end
section
structure Has(Mb M:Mn)(lvb lv:List (Int×Bool))(hs:List (Int×B.Fn)):Prop where
 nb:∀k,Mb.nx<=k->Ad lvb k=none/\Mb.Aq k=none
 nd:(hs.map (·.1)).Nodup
 ge:∀p∈hs,Mb.nx<=p.1/\p.1<M.nx
 get:∀k,Ad lv k=if k∈hs.map (·.1) then some true else Ad lvb k
 Aq:∀p∈hs,M.Aq p.1=some p.2
 KK:∀k,k∉hs.map (·.1)->M.Aq k=Mb.Aq k
 len:lv.length=lvb.length+hs.length
 nx:Mb.nx<=M.nx
variable {M:Mn} {lv:List (Int×Bool)}
theorem WK.has{H:HY}{wb b:Nat}{M0:Mn}{L:Ac}(w:WK H wb b M0 M L lv):Has M M lv lv []:=⟨λ_ a=>w.nl a,by simp,by simp,by simp,by simp,λ_ _=>rfl,rfl,ce _⟩
variable {l:List Int}
theorem Aei{ks:List Int}(f:ks.Nodup)(c:l.Nodup)(hs:∀k∈l,k∈ks):(ks.filter λk=>decide (k∉l)).length+l.length=ks.length:=by
 have e:(ks.filter λk=>decide (k∈l)).Perm l:=by grind
 have b:=List.length_eq_countP_add_countP (λk=>decide (k∈l)) (l:=ks);rw[ba,ba,e.length_eq]at b;grind
variable {hs:List (Int×B.Fn)}
theorem Kr:(hs.filter λp=>decide (p.1∉l)).map (·.1)=(hs.map (·.1)).filter λk=>decide (k∉l):=by rw[List.filter_map];rfl
variable {Mb:Mn} {lvb:List (Int×Bool)}
theorem Has.use{M':Mn}{lv':List (Int×Bool)}{F:B.Fn}(h:Has Mb M lvb lv hs)(u:Used M M' lv lv' l F)(q:l.Nodup)(a:∀k∈l,k∈hs.map (·.1)):Has Mb M' lvb lv' ((M.nx,F)::hs.filter λp=>decide (p.1∉l)):=by
 have c:∀k,k∈((M.nx,F)::hs.filter λp=>decide (p.1∉l)).map (·.1)↔k=M.nx∨(k∈hs.map (·.1)/\k∉l):=λk=>by simp
 have n:∀k∈hs.map (·.1),Mb.nx<=k/\k<M.nx:=λk i=>by obtain⟨p,j,rfl⟩:=ak.1 i;exact h.ge p j
 have v:=u.nx;refine⟨h.nb,?_,λp j=>?_,λk=>?_,λp j=>?_,λk i=>?_,?_,by have:=h.nx;omega⟩
 .rw[av,bt,Kr];refine⟨λd=>?_,h.nd.filter _⟩;grind
 .rcases au.1 j with e|e
  .subst e;have:=h.nx;omega
  grind
 .rw[u.get];by_cases e:k=M.nx
  .rw[UV e,UV ((c k).2 (.inl e))]
  .rw[GT e];by_cases b:k∈l
   .rw[UV b,GT λd=>((c k).1 d).elim e λf=>f.2 b];exact((h.nb k (n k (a k b)).1).1).symm
   .rw[GT b,h.get];grind
 .rcases au.1 j with e|e
  .subst e;show M'.Aq M.nx=_;rw[u.Aq,UV rfl]
  .obtain⟨o,b⟩:=bo.1 e;have b:p.1∉l:=of_decide_eq_true b;have:=(h.ge p o).2;rw[u.Aq,GT (by omega),GT λf=>b f.1];exact h.Aq p o
 .have g:=λf=>i ((c k).2 f);rw[u.Aq,GT λe=>g (.inl e)];by_cases b:k∈l
  .have d:=a k b;rw[UV ⟨b,by rw[h.get,UV d];rfl⟩];exact((h.nb k (n k d).1).2).symm
  .rw[GT λf=>b f.1];exact h.KK k λd=>g (.inr ⟨d,b⟩)
 .have s:=u.len q λk i=>by rw[h.get,UV (a k i)];rfl
  have r:=Aei h.nd q a;rw[<-Kr,ao,ao]at r;have t:=h.len;grind
theorem Has.perm{hs':List (Int×B.Fn)}(h:Has Mb M lvb lv hs)(p:hs'.Perm hs):Has Mb M lvb lv hs':=by have b:∀k,k∈hs'.map (·.1)↔k∈hs.map (·.1):=λk=>(p.map _).mem_iff;refine⟨h.nb,((p.map _).nodup_iff).2 h.nd,λq a=>h.ge q (p.mem_iff.1 a),λk=>?_,λq a=>h.Aq q (p.mem_iff.1 a),λk c=>h.KK k λd=>c ((b k).2 d),by rw[p.length_eq];exact h.len,h.nx⟩;rw[h.get];grind
theorem Has.push{M':Mn}{lv':List (Int×Bool)}{F:B.Fn}(h:Has Mb M lvb lv hs)(u:Used M M' lv lv' [] F):Has Mb M' lvb lv' ((M.nx,F)::hs):=by have:=h.use u List.nodup_nil (by simp);grind[decide,bx]
theorem Has.two{Mb M M':Mn}{lvb lv lv':List (Int×Bool)}{hs:List (Int×B.Fn)}{a c:Int}{Fa Fc F:B.Fn}(h:Has Mb M lvb lv ((a,Fa)::(c,Fc)::hs))(u:Used M M' lv lv' [a,c] F):Has Mb M' lvb lv' ((M.nx,F)::hs):=by have b:=h.nd;simp only[av,bt,au,not_or]at b;have:=h.use u (by grind) (by simp);grind[decide,List.filter_cons_of_neg,bx,decide_eq_true]
end
section
structure Wk(Hb H:HY)(wb b:Nat)(M0 Mb M:Mn)(L:Ac)(lvb lv:List (Int×Bool))(hs:List (Int×B.Fn)):Prop where
 w:WK H wb b M0 M L lv
 h:Has Mb M lvb lv hs
 f:QK wb b M0 Hb H
variable {H:HY} {wb b:Nat} {M0 M:Mn} {L:Ac} {lv:List (Int×Bool)}
theorem Wk.of(w:WK H wb b M0 M L lv):Wk H H wb b M0 M M L lv lv []:=⟨w,w.has,.refl⟩
variable {Hb:HY} {Mb:Mn} {lvb:List (Int×Bool)} {hs:List (Int×B.Fn)}
theorem Wk.ln(k:Wk Hb H wb b M0 Mb M L lvb lv hs):M.hs.length=M0.hs.length+lvb.length+hs.length:=by have:=k.w.ln;have:=k.h.len;omega
theorem Wk.step{H':HY}{M':Mn}{lv':List (Int×Bool)}{hs':List (Int×B.Fn)}(k:Wk Hb H wb b M0 Mb M L lvb lv hs)(w:WK H' wb b M0 M' L lv')(h:Has Mb M' lvb lv' hs')(f:QK wb b M H H'):Wk Hb H' wb b M0 Mb M' L lvb lv' hs':=⟨w,h,k.f.trans (f.same k.w.bs)⟩
theorem Wk.perm{hs':List (Int×B.Fn)}(k:Wk Hb H wb b M0 Mb M L lvb lv hs)(p:hs'.Perm hs):Wk Hb H wb b M0 Mb M L lvb lv hs':=⟨k.w,k.h.perm p,k.f⟩
theorem Wk.const{yes:Bool}{X:PX}{Q:Int×Unit->UU}(k:Wk Hb H wb b M0 Mb M L lvb lv hs)(c:M.nx<576460752303423486)(h:∀M' lv' H',Wk Hb H' wb b M0 Mb M' L lvb lv' ((M.nx,λ_=>yes)::hs)->M'.nx=M.nx+1->Q (M.nx,()) () H'):qK BN B8 (some wb,yes,()) H Q X:=SA k.w c λM' lv' H' a _ u f=>h M' lv' H' (k.step a (k.h.push u) f) u.nx
variable {next:Bool}
theorem Wk.Adm{i:Nat}{n:Int}{X:PX}{Q:Int×Unit->UU}(k:Wk Hb H wb b M0 Mb M L lvb lv hs)(j:M.nx<576460752303423486)(e:M.hs.length<=60000)(d:Jf L)(hi:i<L.Aa.length)(a:2*CR L<=M.S.n)(c:Bn .i64 (DL L i n))(h:∀M' lv' H',Wk Hb H' wb b M0 Mb M' L lvb lv' ((M.nx,DQ (Gf (Cu L i next) (DL L i n)))::hs)->M'.nx=M.nx+1->Q (M.nx,()) () H'):qK BG B3 (some wb,(i:Int),n,next,()) H Q X:=
 Yu k.w (by omega) e d hi a c λM' lv' H' g _ u f=>h M' lv' H' (k.step g (k.h.push u) f) u.nx
theorem Wk.two{Hb H:HY}{wb b:Nat}{M0 Mb M:Mn}{L:Ac}{lvb lv:List (Int×Bool)}{hs:List (Int×B.Fn)}{a c:Int}{Fa Fc F:B.Fn}{J3:FT Y0 [.ptr,.sl I6] [.int .i64,.int .i64]}{X:PX}{Q:Int×Unit->UU}(k:Wk Hb H wb b M0 Mb M L lvb lv ((a,Fa)::(c,Fc)::hs))(n:M.nx<576460752303423486)(d:MG H b M->M.Aq a=some Fa->M.Aq c=some Fc->DoS b M H [a,c] F J3)(h:∀M' lv' H',Wk Hb H' wb b M0 Mb M' L lvb lv' ((M.nx,F)::hs)->M'.nx=M.nx+1->Q (M.nx,()) () H'):qK Bk AY (some wb,J3,[a,c],()) H Q X:=by have m:=k.h.ge (a,Fa) (by simp);have i:=k.h.ge (c,Fc) (by simp);refine NI k.w (by omega) (by simp) (λj l=>?_) (d k.w.mg (k.h.Aq (a,Fa) (by simp)) (k.h.Aq (c,Fc) (by simp))) λM' lv' H' g _ u f=>h M' lv' H' (k.step g (k.h.two u) f) u.nx;grind
theorem Aoc{a c:Int}{Fa Fc:B.Fn}(l:MG H b M)(o:M.nx<576460752303423487)(n:M.hs.length<=60000)(k:M.Aq a=some Fa)(m:M.Aq c=some Fc):DoS b M H [a,c] (Q4 Fa Fc) (λ(a:Option Nat×List Int×Unit)(H:HY)(Q:Int×Int×Unit->HP)(X:Nat->Lf Y0.D->HP)=>qK IS Hx (a.1,a.2.1,()) H (λ(b:Int×Int×Unit)(_:Unit)(d:HY)=>Q (b.1,b.2.1,()) d) X):=λQ X h=>
 Pn l o n (by simp) (Gs:=[Fa,Fc]) (by grind) λj d g i f=>h j d g (by
  have e:[Fa,Fc].foldl Q4 (λ_=>false)=Q4 Fa Fc:=by funext x;rfl
  grind) f
theorem Aod{a c:Int}{Fa Fc:B.Fn}(l:MG H b M)(o:M.nx<576460752303423487)(n:M.hs.length<=60000)(k:M.Aq a=some Fa)(m:M.Aq c=some Fc):DoS b M H [a,c] (C6 Fa Fc) (λ(a:Option Nat×List Int×Unit)(H:HY)(Q:Int×Int×Unit->HP)(X:Nat->Lf Y0.D->HP)=>qK Cy Ci (a.1,a.2.1,()) H (λ(b:Int×Int×Unit)(_:Unit)(d:HY)=>Q (b.1,b.2.1,()) d) X):=λQ X h=>
 MZ l o n (by simp) (Gs:=[Fa,Fc]) (by grind) λj d g i f=>h j d g (by
  have e:[Fa,Fc].foldl C6 (λ_=>true)=C6 Fa Fc:=by funext x;rfl
  grind) f
def E8(v:Ar):Int:=if v.Bool=true then 0 else v.Lo
def NF(v:Ar):Int:=if v.Bool=true then 1 else v.Hi
structure Ku(L:Ac):Prop extends Jf L where
 fit:∀i(h:i<L.Aa.length)(h':i<L.Bits.length),E8 L.Aa[i]<=NF L.Aa[i]/\NF L.Aa[i]-E8 L.Aa[i]<2^L.Bits[i].toNat/\-1152921504606846976<=E8 L.Aa[i]/\NF L.Aa[i]<=1152921504606846976
def isF(L:Ac)(next:Bool)(i:Nat)(n:Int):B.Fn:=DQ (Gf (Cu L i next) (DL L i n))
def MY(l:List B.Fn):B.Fn:=λa=>l.any λF=>F a
def Ach(l:List B.Fn):B.Fn:=λa=>l.all λF=>F a
theorem Xz{l:List B.Fn}{F:B.Fn}:Q4 (MY l) F=MY (l++[F]):=by grind[Q4,MY]
theorem Aev{l:List B.Fn}{F:B.Fn}:C6 (Ach l) F=Ach (l++[F]):=by grind[C6,Ach]
def PN(L:Ac)(next:Bool)(i k:Nat):B.Fn:=MY ((am k).map λ(j:Nat)=>isF L next i ((L.Aa[i]?.map E8).getD 0+(j:Int)))
def Ng(v:Ar):Nat:=(NF v-E8 v+1).toNat
def EA(L:Ac)(next:Bool)(k:Nat):B.Fn:=Ach ((am k).map λ(i:Nat)=>PN L next i ((L.Aa[i]?.map Ng).getD 0))
theorem Adi{i k:Nat}:Q4 (PN L next i k) (isF L next i ((L.Aa[i]?.map E8).getD 0+(k:Int)))=PN L next i (k+1):=by unfold PN;rw[Xz,br,ac];rfl
theorem Ajw{k:Nat}:C6 (EA L next k) (PN L next k ((L.Aa[k]?.map Ng).getD 0))=EA L next (k+1):=by unfold EA;rw[Aev,br,ac];rfl
end
section
variable {L:Ac} {i:Nat}
theorem Jf.Ayg(h:Jf L)(hi:i<L.Bits.length):0<=L.Bits[i]/\L.Bits[i]<=CR L:=by have b:=h.b0 i hi;have c:=h.sum (k:=i) (by omega);have a:=h.NP (j:=i+1) (k:=L.Bits.length) (by omega) (an _);grind[Eo,CR]
theorem Dx.n{M M':Mn}(h:Dx M M'):M'.S.n=M.S.n:=by unfold B9.n;rw[h.tb]
theorem Ku.cnt(h:Ku L)(g:2*CR L<=8)(hi:i<L.Aa.length):E8 L.Aa[i]<=NF L.Aa[i]/\NF L.Aa[i]-E8 L.Aa[i]<16/\-1152921504606846976<=E8 L.Aa[i]/\NF L.Aa[i]<=1152921504606846976/\(Ng L.Aa[i]:Int)=NF L.Aa[i]-E8 L.Aa[i]+1:=by
 have a:i<L.Bits.length:=by rw[h.lb];exact hi
 obtain⟨c,f,d,j⟩:=h.fit i hi a;have k:=h.toJf.Ayg a;have b:(2:Int)^L.Bits[i].toNat<=16:=by
  have:L.Bits[i].toNat=0∨L.Bits[i].toNat=1∨L.Bits[i].toNat=2∨L.Bits[i].toNat=3∨L.Bits[i].toNat=4:=by omega
  rcases this with e|e|e|e|e<;>rw[e]<;>decide
 grind[Ng]
theorem Ku.Adm(h:Ku L)(b:2*CR L<=8)(hi:i<L.Aa.length){n:Int}(d:E8 L.Aa[i]<=n)(e:n<=NF L.Aa[i]):Bn .i64 (DL L i n):=by
 have c:=h.cnt b hi;unfold DL;rw[a7 hi];simp only;split
 .grind[A7]
 .rename_i a;have f:E8 L.Aa[i]=L.Aa[i].Lo:=GT a;grind[A7]
theorem LH{wb b:Nat}{M0 M:Mn}{lv:List (Int×Bool)}{next:Bool}{H:HY}{X:PX}{Q:Int×Unit->UU}(w:WK H wb b M0 M L lv)(hn:M.nx<576460752303420000)(hl:M.hs.length<=59900)(B:Ku L)(t:2*CR L<=M.S.n)(h:∀M' lv' H'(r:Int),Wk H H' wb b M0 M M' L lv lv' [(r,EA L next L.Aa.length)]->M'.nx<=M.nx+3000->Q (r,()) () H'):qK Fy DY (some wb,next,()) H Q X:=by
 refine wF Tryz.f67 {lp:=[(8,⟨[(8,.one (.dat I6)),(11,.one (.dat I6))],[0,1,5,6,10,18,19,20],true⟩),(3,⟨[(5,.one (.dat I6)),(20,.nat)],[0,1,18,19],true⟩)]} (?_:qK BN B8 ((some wb),true,()) H (λ(b:Int×UT)_ G=>∃(b1:Nat),(some wb)=some b1/\∃(x:Al),G b1=some (Ob.st BJ x)/\(x.l.Aa.length<=2^63-1->{x with l:={Aa:=x.l.Aa,Bits:=x.l.Bits,At:=x.l.At:Ac}}=x/\∃(V:Nat->Int×Nat×UT->HP),(∃(n:Nat),V n (b.1,0,()) G)/\∀n x1 H,V n x1 H->(x1.2.1<x.l.Aa.length->x1.2.1<=2^63-1->∃(h:x1.2.1<x.l.Aa.length),qK BN B8 ((some wb),false,()) H (λ(b:Int×UT)_ G=>qK IY Gu (x.l.Aa[x1.2.1],()) G (λ(b2:Int×Int×UT)_ G=>∃(V1:Nat->Int×Int×UT->HP),(∃(n:Nat),V1 n (b.1,b2.1,()) G)/\∀n1 x H,V1 n1 x H->(x.2.1<=b2.2.1->qK BG B3 ((some wb),(↑x1.2.1:Int),x.2.1,next,()) H (λ(b:Int×UT)_ G=>qK Bk AY ((some wb),λ(a:Option Nat×List Int×UT)(H:HY)(Q:Int×Int×UT->HP)(X:Nat->Lf Y0.D->HP)=>qK IS Hx (a.1,a.2.1,()) H (λ(b:Int×Int×UT)(x:UT)(G:HY)=>Q (b.1,b.2.1,()) G) X,[x.1,b.1],()) G (λ(b:Int×UT)_ G=>IK x.2.1->IK (x.2.1+1)/\∃m,m<n1/\V1 m (b.1,x.2.1+1,()) G) X) X)/\(¬x.2.1<=b2.2.1->qK Bk AY ((some wb),λ(a:Option Nat×List Int×UT)(H:HY)(Q:Int×Int×UT->HP)(X:Nat->Lf Y0.D->HP)=>qK Cy Ci (a.1,a.2.1,()) H (λ(b:Int×Int×UT)(x:UT)(G:HY)=>Q (b.1,b.2.1,()) G) X,[x1.1,x.1],()) H (λ(b:Int×UT)_ G=>x1.2.1+1<=2^63-1/\∃m,m<n/\V m (b.1,x1.2.1+1,()) G) X)) X) X)/\(¬x1.2.1<x.l.Aa.length->Q (x1.1,()) () H))) X);have Z:2*CR L<=8:=by have:=w.mg.n8;omega
 have hln:=B.ln;have hwl:=w.ln;have hS:∀{M':Mn},Dx M0 M'->M'.S.n=M.S.n:=λe=>e.n.trans w.bs.n.symm;refine(Wk.of w).const (by omega) λV G H1 U nx1=>?_;refine⟨wb,rfl,_,U.w.ob,λ_=>⟨rfl,λn z E=>n=L.Aa.length-z.2.1/\z.2.1<=L.Aa.length/\∃o f,Wk H E wb b M0 M o L lv f [(z.1,EA L next z.2.1)]/\o.nx<=M.nx+1+40*(z.2.1:Int),⟨_,rfl,aa _,V,G,U,by omega⟩,?_⟩⟩;rintro n ⟨d,i,u⟩ E ⟨s,v,o,f,D,y⟩;have hn':n=L.Aa.length-i:=s;have hi:i<=L.Aa.length:=v;have D:Wk H E wb b M0 M o L lv f [(d,EA L next i)]:=D;have y:o.nx<=M.nx+1+40*(i:Int):=y;refine⟨λa _=>?_,λa=>?_⟩
 .have a:i<L.Aa.length:=a;obtain⟨c1,c2,c3,c4,c5⟩:=B.cnt Z a;have S:(L.Aa[i]?.map E8).getD 0=E8 L.Aa[i]:=by grind
  have I:(L.Aa[i]?.map Ng).getD 0=Ng L.Aa[i]:=by grind
  refine⟨a,D.const (by omega) λM3 P H3 k3 nx3=>Ny ⟨λn z K=>∃j:Nat,z.2.1=E8 L.Aa[i]+(j:Int)/\j<=Ng L.Aa[i]/\n=Ng L.Aa[i]-j/\∃p l,Wk H K wb b M0 M p L lv l [(z.1,PN L next i j),(d,EA L next i)]/\p.nx<=M.nx+2+40*(i:Int)+2*(j:Int),⟨_,0,?_,aa _,rfl,M3,P,k3,by omega⟩,?_⟩⟩
  .grind[E8]
  rintro n1 ⟨so,x,u2⟩ K ⟨j,J,hj,hn1,p,l,m,nx4⟩;have hx:x=E8 L.Aa[i]+(j:Int):=J;subst hx;have m:Wk H K wb b M0 M p L lv l [(so,PN L next i j),(d,EA L next i)]:=m;have l4:=m.ln;simp only[bk,cg]at l4;refine⟨λc=>?_,λc=>?_⟩
  .have c:E8 L.Aa[i]+(j:Int)<=NF L.Aa[i]:=c;refine m.Adm (by omega) (by omega) B.toJf a (by rw[hS m.w.bs];exact t) (B.Adm Z a (by omega) c) λq g Y C R=>?_;have l5:=C.ln;simp only[bk,cg]at l5;refine(C.perm (.swap _ _ _)).two (by omega) (λF T O=>Aoc F (by omega) (by omega) T O) λW A H6 k6 nx6 _=>⟨A7.2 ?_,Ng L.Aa[i]-(j+1),by omega,j+1,?_,by omega,rfl,W,A,?_,by omega⟩
   .omega
   .grind
   .have e:=Adi (L:=L) (next:=next) (i:=i) (k:=j);rw[S]at e;show Wk H H6 wb b M0 M W L lv A [(q.nx,PN L next i (j+1)),(d,EA L next i)];rw[<-e];exact k6
  .have c:¬E8 L.Aa[i]+(j:Int)<=NF L.Aa[i]:=c;have N:j=Ng L.Aa[i]:=by omega
   subst N;refine(m.perm (.swap _ _ _)).two (by omega) (λF T O=>Aod F (by omega) (by omega) T O) λq g Y C R=>⟨by grind,L.Aa.length-(i+1),by omega,rfl,by grind,q,g,?_,?_⟩
   all_goals grind[Ajw,EA]
 grind
end
structure Got(M M':Mn)(r:Int)(F:B.Fn):Prop where
 bs:Dx M M'
 ge:M.nx<=r
 nx:M.nx<=M'.nx
 ln:M'.hs.length=M.hs.length+1
 Aq:∀k,M'.Aq k=if k=r then some F else M.Aq k
def FrO(b:Nat)(M:Mn)(H H':HY):Prop:=∀c,H c≠none->Fb b M c->H' c=H c
theorem Got.Av1{Hb H:HY}{wb b:Nat}{M Mx M':Mn}{L:Ac}{lv:List (Int×Bool)}{r:Int}{F:B.Fn}(k:Wk Hb H wb b M M Mx L [] lv [(r,F)])(e:Apk M Mx M' lv [r]):Got M M' r F:=by
 have g:=k.h.ge (r,F) (by simp);have h:=k.h.len;have c:∀j,Ad lv j=if j=r then some true else none:=λj=>by rw[k.h.get];simp [Ad]
 refine⟨k.w.bs.trans e.bs,g.1,by rw[e.nx];omega,?_,λj=>?_⟩
 .rw[e.ln];have:lv=[(r,true)]:=by
   match lv,h,c with
   | [(a,t)],_,c=>
    have d:=c r
    rw[UV rfl]at d
    grind[Ad]
  grind
 .rw[e.Aq,c];by_cases f:j=r
  .subst f;rw[UV rfl,UV rfl,GT (by simp)];exact k.h.Aq (j,F) (by simp)
  .rw[GT f,GT f,GT (by simp)];exact k.h.KK j (by simp [f])
theorem Ly{b:Nat}{M:Mn}{L:Ac}{next:Bool}{H:HY}{X:PX}{Q:Int×Int×Unit->UU}(q:MG H b M)(A:M.nx<576460752303420000)(B:M.hs.length<=59900)(p:Ku L)(v:M.S.n<2*CR L->Q (0,9,()) () H)(C:2*CR L<=M.S.n->∀M' H' r,MG H' b M'->Got M M' r (EA L next L.Aa.length)->M'.nx<=M.nx+3000->FrO b M H H'->Q (r,0,()) () H'):qK JP HC (some b,L,next,()) H Q X:=by
 refine wF Tryz.f20 {im:=[4]} (?_:qK JO HB ((some b),L,()) H (λ(a:Option Nat×Int×UT)_ G=>(¬a.2.1=0->Q (0,a.2.1,()) () G)/\(¬¬a.2.1=0->qK Fy DY (a.1,next,()) G (λ(b1:Int×UT)_ G=>qK J2 GL (a.1,[b1.1],()) G (λ(a:Int×UT)_ G=>Q (b1.1,a.1,()) () G) X) X)) X);refine Lw q p.toJf (λg=>⟨λ_=>v g,λh=>qG (show ¬(9:Int)=0 by decide) h⟩) λa s E k w t=>⟨λh=>qG rfl h,λ_=>?_⟩
 refine LH w A B p a λG D F r f i=>?_;refine T6 f.w (by omega) (by simp) λy z u n x=>?_;refine C a y z r u (Got.Av1 f n) (by rw[n.nx];exact i) λc l m=>?_;have d:c≠s:=λe=>l (by grind);have j:=t c d;have o:=f.f c (by grind) d m;rw[x c (by grind) d (m.same f.w.bs),o,j]
section
section
variable {κ β:Type} [DecidableEq κ]
theorem Pt{k:κ}{v:β}:∀{m:List (κ×β)},(BR m k v).Perm ((k,v)::Db m k)
 | []=>.refl _
 |p::m=>by
  unfold BR Db;split
  .simp_all
  .exact(bw p Pt).trans (.swap _ _ _)
theorem Abq{k:κ}{v:β}:∀{m:List (κ×β)},Ad m k=some v->m.Perm ((k,v)::Db m k)
 |p::m,h=>by
  unfold Ad at h;unfold Db;split
  .rename_i e;rw[UV e]at h;cases h;subst e;rfl
  .rename_i e;rw[GT e]at h;exact(bw p (Abq h)).trans (.swap _ _ _)
theorem Te{k:κ}:∀{m:List (κ×β)},Ad m k=none->Db m k=m
 | [],_=>rfl
 |p::m,h=>by unfold Ad at h;unfold Db;split at h;all_goals simp_all[Te]
end
def Jm(m:List (Int×Int))(G:Int->B.Fn):List (Int×B.Fn):=m.map λp=>(p.2,G p.1)
def NM(G:Int->B.Fn)(n:Int)(F:B.Fn):Int->B.Fn:=λj=>if j=n then Q4 (G n) F else G j
theorem Abp{m:List (Int×Int)}{G:Int->B.Fn}{n:Int}{F:B.Fn}(h:N9 m):Jm (Db m n) (NM G n F)=Jm (Db m n) G:=by
 refine List.map_congr_left λp c=>?_;have b:p.1≠n:=λe=>by have a:=Gz (RB h n) c;simp_all[It]
 show (p.2,NM G n F p.1)=_;unfold NM;rw[GT b]
variable {H:HY} {wb b r:Nat} {M0 M:Mn} {L:Ac} {lv:List (Int×Bool)}
theorem WK.Aac{y:Ob Y0}(w:WK H wb b M0 M L lv)(c:r≠wb)(n:Fb b M r):WK (Ab H r y) wb b M0 M L lv:=
 ⟨by rw[Ag _ _ (Ne.symm c)];exact w.ob,w.mg.at_ n λd a=>Ag _ _ a,w.bs,w.n0,w.nx,w.nd,w.tr,w.lo,w.hi,w.ln⟩
theorem Wk.Aac{Hb:HY}{Mb:Mn}{lvb:List (Int×Bool)}{hs:List (Int×B.Fn)}{y:Ob Y0}(k:Wk Hb H wb b M0 Mb M L lvb lv hs)(f:r≠wb)(n:Fb b M0 r)(d:Hb r=none):Wk Hb (Ab H r y) wb b M0 Mb M L lvb lv hs:=
 ⟨k.w.Aac f (n.same k.w.bs),k.h,λc a h g=>by rw[Ag _ _ λe=>a (by grind)];exact k.f c a h g⟩
theorem T7{Hb:HY}{Mb:Mn}{lvb:List (Int×Bool)}{hs:List (Int×B.Fn)}{m:List (Int×Int)}{G:Int->B.Fn}{n h:Int}{F:B.Fn}{X:PX}{Q:Unit->UU}(k:Wk Hb H wb b M0 Mb M L lvb lv ((h,F)::(Jm m G++hs)))(N:M.nx<576460752303423486)(S:M.hs.length<=60000)(x:H r=some (.mp I6 I6 m))(o:r≠wb)(l:Fb b M0 r)(u:Hb r=none)(w:N9 m)(K:∀j,Ad m j=none->G j=λ_=>false)(f:∀M' lv' H' m',Wk Hb H' wb b M0 Mb M' L lvb lv' (Jm m' (NM G n F)++hs)->M'.nx<=M.nx+1->H' r=some (.mp I6 I6 m')->N9 m'->(∀j,Ad m' j=none↔(Ad m j=none/\j≠n))->(∀c,H c≠none->c≠r->c≠wb->Fb b M0 c->H' c=H c)->Q () () H'):qK Cb BQ (some wb,some r,n,h,()) H Q X:=by
 refine wF Tryz.f134 {} (?_:∃(c:Nat),(some r)=some c/\∃(m:List (Int×Int)),H c=some (Ob.mp (Ty.int .i64) (Ty.int .i64) m)/\((Ad m n).isSome->qK Bk AY ((some wb),λ(a:Option Nat×List Int×UT)(H:HY)(Q:Int×Int×UT->HP)(X:Nat->Lf Y0.D->HP)=>qK IS Hx (a.1,a.2.1,()) H (λ(b:Int×Int×UT)(x:UT)(G:HY)=>Q (b.1,b.2.1,()) G) X,[(Ad m n).getD 0,h],()) H (λ(b:Int×UT)_ G=>∃(c:Nat),(some r)=some c/\∃(m:List (Int×Int)),G c=some (Ob.mp (Ty.int .i64) (Ty.int .i64) m)/\Q () () (Ab G c (Ob.mp (Ty.int .i64) (Ty.int .i64) (BR m n b.1)))) X)/\(¬(Ad m n).isSome->∃(c:Nat),(some r)=some c/\∃(m:List (Int×Int)),H c=some (Ob.mp (Ty.int .i64) (Ty.int .i64) m)/\Q () () (Ab H c (Ob.mp (Ty.int .i64) (Ty.int .i64) (BR m n h)))));have g:∀v j,Ad (BR m n v) j=none↔(Ad m j=none/\j≠n):=λv j=>by grind[Cw]
 refine⟨r,rfl,m,x,λd=>?_,λd=>?_⟩
 .have d:(Ad m n).isSome=true:=d;obtain⟨U,t⟩:=bi.1 d;rw[t,cd];have T:Wk H H wb b M0 Mb M L lvb lv ((U,G n)::(h,F)::(Jm (Db m n) G++hs)):=by refine⟨k.w,k.h.perm ?_,.refl⟩;refine(ci _ _ _).trans (bw _ ?_);exact(((Abq t).map λp=>(p.2,G p.1)).append_right hs).symm
  refine T.two N (λO I V=>Aoc O (by omega) S I V) λM' lv' H' q R=>?_;have y:H' r=some (.mp I6 I6 m):=by rw[q.f r (by grind) o l];exact x
  refine⟨r,rfl,m,y,f M' lv' _ (BR m n M.nx) ?_ (by omega) (Ai _ _ _) (JI w _ _) (g _) λc C z E D=>by rw[Ag _ _ z];exact q.f c C E D⟩;refine Wk.Aac (Hb:=Hb) ⟨q.w,q.h.perm ?_,k.f.trans q.f⟩ o l u;have J:(Jm (BR m n M.nx) (NM G n F)).Perm ((M.nx,Q4 (G n) F)::Jm (Db m n) G):=by
   have i:=(Pt (k:=n) (v:=M.nx) (m:=m)).map λp=>(p.2,NM G n F p.1)
   rw[av]at i;have A:NM G n F n=Q4 (G n) F:=UV rfl;have s:=Abp (G:=G) (n:=n) (F:=F) w;grind[Jm]
  exact J.append_right hs
 .have d:¬(Ad m n).isSome=true:=d;have t:Ad m n=none:=by simp_all
  refine⟨r,rfl,m,x,f M lv _ (BR m n h) ?_ (by omega) (Ai _ _ _) (JI w _ _) (g _) λc C z E D=>Ag _ _ z⟩;refine(k.perm ?_).Aac o l u;have P:Q4 (G n) F=F:=by grind[Q4]
  have i:=(Pt (k:=n) (v:=h) (m:=m)).map λp=>(p.2,NM G n F p.1)
  rw[av]at i;have A:NM G n F n=F:=(UV rfl).trans P;have s:=Abp (G:=G) (n:=n) (F:=F) w;unfold Jm at s ⊢;rw[s,A,Te t]at i;exact i.append_right hs
end
section
variable {Mb M:Mn} {lvb lv:List (Int×Bool)} {hs1:List (Int×B.Fn)}
theorem Has.trans{Ma:Mn}{lva:List (Int×Bool)}{hs2:List (Int×B.Fn)}(h:Has Ma Mb lva lvb hs1)(k:Has Mb M lvb lv hs2):Has Ma M lva lv (hs2++hs1):=by
 have m:∀j∈hs1.map (·.1),Ma.nx<=j/\j<Mb.nx:=λj d=>by obtain⟨p,f,rfl⟩:=ak.1 d;exact h.ge p f
 have i:∀j∈hs2.map (·.1),Mb.nx<=j/\j<M.nx:=λj d=>by obtain⟨p,f,rfl⟩:=ak.1 d;exact k.ge p f
 have o:=h.nx;have q:=k.nx;refine⟨h.nb,?_,λp f=>?_,λj=>?_,λp f=>?_,λj d=>?_,?_,by omega⟩
 .rw[ac,cb];exact⟨k.nd,h.nd,λa l c n e=>by grind⟩
 .rcases aj.1 f with e|e
  .have:=k.ge p e;omega
  .have:=h.ge p e;omega
 .rw[k.get,h.get,ac];grind
 .rcases aj.1 f with e|e
  .exact k.Aq p e
  .rw[k.KK _ λb=>by have:=(i _ b).1;have:=(h.ge p e).2;omega];exact h.Aq p e
 .rw[ac]at d;rw[k.KK j λb=>d (ah _ b),h.KK j λb=>d (ag _ b)]
 .rw[k.len,h.len,aw];omega
theorem Wk.trans{Ha Hb H:HY}{wb b:Nat}{M0 Ma:Mn}{L:Ac}{lva:List (Int×Bool)}{hs2:List (Int×B.Fn)}(k:Wk Ha Hb wb b M0 Ma Mb L lva lvb hs1)(a:Wk Hb H wb b M0 Mb M L lvb lv hs2):Wk Ha H wb b M0 Ma M L lva lv (hs2++hs1):=⟨a.w,k.h.trans a.h,k.f.trans a.f⟩
theorem Wk.drop{Hb H:HY}{wb b:Nat}{M0:Mn}{L:Ac}{hs:List (Int×B.Fn)}{l:List Int}{X:PX}{Q:Unit->UU}(k:Wk Hb H wb b M0 Mb M L lvb lv (hs1++hs))(E:M.nx<576460752303423486)(A:l.length<=1000000)(c:l.Perm (hs1.map (·.1)))(h:∀M' lv' H',Wk Hb H' wb b M0 Mb M' L lvb lv' hs->M'.nx=M.nx->QK wb b M0 H H'->Q () () H'):qK Ap Ao (some wb,l,()) H Q X:=by
 have o:=k.h.nd;rw[ac,cb]at o;have i:∀j,j∈l↔j∈hs1.map (·.1):=λj=>c.mem_iff;have v:∀j∈(hs1++hs).map (·.1),Mb.nx<=j/\j<M.nx:=λj m=>by obtain⟨p,c,rfl⟩:=ak.1 m;exact k.h.ge p c
 have g:∀j∈l,(Ad lv j).isSome=true:=λj m=>by rw[k.h.get,UV (by rw[ac];exact ah _ ((i j).1 m))];rfl
 refine QV k.w (by omega) A λM' lv' H' C r D u x s f=>h M' lv' H' ⟨C,?_,k.f.trans (f.same k.w.bs)⟩ r (f.same k.w.bs);refine⟨k.h.nb,o.2.1,λp c=>?_,λj=>?_,λp c=>?_,λj m=>?_,?_,by have:=k.h.nx;omega⟩
 .have:=k.h.ge p (ag _ c);omega
 .rw[D,k.h.get,ac];by_cases e:j∈l
  .have n:=(i j).1 e;rw[UV e,GT λt=>o.2.2 j n j t rfl];exact((k.h.nb j (v j (by rw[ac];exact ah _ n)).1).1).symm
  grind
 .have z:p.1∈hs.map (·.1):=bb c;rw[u,GT λd=>o.2.2 p.1 ((i _).1 d.1) p.1 z rfl];exact k.h.Aq p (ag _ c)
 .rw[u];by_cases e:j∈l
  .rw[UV ⟨e,g j e⟩];exact((k.h.nb j (v j (by grind)).1).2).symm
  .rw[GT λd=>e d.1];refine k.h.KK j λd=>?_;grind
 .have F:=s ((c.nodup_iff).2 o.1) g;have y:=k.h.len;have w:=c.length_eq;grind
end
end Go.Proofs.YtcbkbpjlbmalmaaGreatDoor
