/-
  The Boolean operations on handles. (Merged by program out of 7 texts.)
-/
import Derived.Test.YtcbkbpjlbmalmaaGreatDoorpau
import Derived.Test.YtcbkbpjlbmalmaaGreatDoorpas
import Derived.Test.YtcbkbpjlbmalmaaGreatDoorpac
import Derived.Test.YtcbkbpjlbmalmaaGreatDoorpat
import Derived.Test.YtcbkbpjlbmalmaaGreatDoorpan
namespace Go.Proofs.YtcbkbpjlbmalmaaGreatDoor
open Go Go.X Go.Y
section
variable {b:Nat} {S:Sto} {H:HY} {X:PX} {Q:Int×Unit->UU}
theorem Aim(hS:Dc H b S)(h:Q (S.po.room,()) () H):Wp Y0 Mm I7 (some b,()) H Q X:=by refine Z9 _ _ _ _ ?_;refine⟨λh=>absurd h (by simp),λ_=>⟨b,rfl,S.ob,hS.st,rfl,?_⟩⟩;refine Adh _ _ _ _ ?_;exact⟨λh=>absurd h (by simp [Sto.ob]),λ_=>⟨S.bp,rfl,S.po,hS.po,rfl,h⟩⟩
theorem Ak7(hS:Dc H b S)(h:Q (S.po.many,()) () H):Wp Y0 N0 J6 (some b,()) H Q X:=by refine Abq _ _ _ _ ?_;refine⟨λh=>absurd h (by simp),λ_=>⟨b,rfl,S.ob,hS.st,rfl,?_⟩⟩;refine Aey _ _ _ _ ?_;exact⟨λh=>absurd h (by simp [Sto.ob]),λ_=>⟨S.bp,rfl,S.po,hS.po,rfl,h⟩⟩
theorem Y1{level:Int}(hS:Dc H b S)(hI:SI S)(hrb:∀i,rfA S.po i<=576460752303423488)(h2:¬(0<=level/\level<S.n-1)->Q (2,()) () H)(h7:∀S' H',(∃i d,tbl S.po i=some d)->Dc H' b S'->SI S'->Chg S S'->FrN b S H H'->S'.lv=S.lv->Q (7,()) () H')(h:∀S' H'(x y:Int),0<=level->level<S.n-1->S.lv.vars[level.toNat]?=some x->S.lv.vars[level.toNat+1]?=some y->Dc H' b S'->SI S'->Chg S S'->FrN b S H H'->S'.lv=swL S.lv level.toNat x y->(∀i d,tbl S'.po i=some d->0<cnA S'.cn i)->Q (0,()) () H'):Wp Y0 Ff Ed (some b,level,()) H Q X:=by
 refine Z8 _ _ _ _ _ ?_;unfold Rk;have hvl:(S.lv.vars.length:Int)=S.n:=by unfold Sto.n;rw[hI.vl]
 have hn64:=hI.C6.od.n64;refine⟨λh=>absurd h (by simp),λ_=>⟨λhl=>h2 (by omega),λhl=>⟨b,rfl,S.ob,hS.st,S.bl,rfl,rfl,S.lv,hS.lv,λ_ _=>⟨Bk.2 (by rw[hvl];have:=@Sto.P4 S;omega),λhle=>⟨rfl,h2 (by rw[hvl]at hle;omega)⟩,λhle=>⟨rfl,?_⟩⟩⟩⟩⟩;rw[hvl]at hle;refine K5 hS hI λS1 H1 _ s1 i1 c1 f1=>?_;have hn1:S1.n=S.n:=by unfold Sto.n;rw[c1.tb]
 have chg1:=Afo hI i1 c1;have hvl1:(S1.lv.vars.length:Int)=S.n:=by rw[c1.lv];exact hvl
 obtain⟨k,hk⟩:∃k:Nat,level=k:=⟨level.toNat,by omega⟩
 subst hk;have t0:((k:Int)).toNat=k:=by omega
 have t1:((k:Int)+1).toNat=k+1:=by omega
 have hk0:k<S1.lv.vars.length:=by omega
 have hk1:k+1<S1.lv.vars.length:=by omega
 have ik:InK .i64 ((k:Int)+1):=Bk.2 (by omega);refine⟨S1.ob,s1.st,S1.bl,rfl,rfl,S1.lv,s1.lv,λ_=>⟨λ_=>by omega,by rw[t0];exact hk0,by rw[t0];exact hk0,rfl,S1.ob,s1.st,S1.bl,rfl,rfl,S1.lv,s1.lv,λ_=>⟨ik,λ_=>⟨λ_=>by omega,by rw[t1];exact hk1,by rw[t1];exact hk1,rfl,?_⟩⟩⟩⟩;generalize hx:S1.lv.vars[((k:Int)).toNat]'_=x;generalize hy:S1.lv.vars[((k:Int)+1).toNat]'_=y;replace hx:S1.lv.vars[k]=x:=hx;replace hy:S1.lv.vars[k+1]=y:=hy;have hxs:S1.lv.vars[k]?=some x:=by rw[List.getElem?_eq_getElem hk0,hx]
 have hys:S1.lv.vars[k+1]?=some y:=by rw[List.getElem?_eq_getElem hk1,hy]
 have ix:=i1.inv k x hxs;have iy:=i1.inv (k+1) y hys;have hP:=i1.sc.po;refine Aik s1 i1 ⟨ix.1,ix.2.1⟩ λL H2 s2 f2 l1 l2 l3 l4=>?_;have cpos:∀t∈L,∀p∈kyQ t,0<=p.2:=λt ht p hp=>by
  have e:=l3 t ht;have hd:=Ln e.nd;rw[e.v]at hd;have q1:=i1.C6.four Sto.P4 ⟨iy.1,iy.2.1⟩ (by rw[ix.2.2,iy.2.2];omega) hd rfl _ (.inr rfl);simp only at q1;rw[show B.sp (tbl S1.po) y t.n.Hi=(t.hl,t.hh) from e.h.symm]at q1;rcases List.mem_cons.1 hp with rfl|hp
  .exact q1.1.1
  .rw[List.mem_singleton]at hp;subst hp;exact q1.2.1.1
 refine Af1 s2 ⟨ix.1,ix.2.1⟩ cpos l2 λK k1 k2 k3=>?_;replace k2:K.length<=2*L.length:=k2;have hfree:S1.po.free.length<=S1.po.at_.length:=Asv (λi:Int=>i.toNat) hP.nd (λi hi=>by have:=hP.fr i hi;omega) λi hi j hj e=>by have:=hP.fr i hi;have:=hP.fr j hj;have e:i.toNat=j.toNat:=e;omega
 have hlen:=hP.len;have hroom:=hP.room;have hcnt:=hP.cnt;refine Aim s2 (Ak7 s2 λ_ _=>⟨?_,λhlt=>?_,λhge=>?_⟩)
 .exact Bk.2 (by show _<=S1.po.room-S1.po.many/\S1.po.room-S1.po.many<=_;omega)
 .have hlt:S1.po.room-S1.po.many<(K.length:Int):=hlt;refine h7 S1 H2 ?_ s2 i1 chg1 (f1.trans f2 c1.bl c1.bp c1.tb) c1.lv;have:0<L.length:=by omega
  obtain⟨t,ht⟩:=List.exists_mem_of_length_pos this;have hd:=Ln (l3 t ht).nd;rw[c1.tbl]at hd;split at hd
  .cases hd
  .exact⟨_,_,hd⟩
 have hge:¬S1.po.room-S1.po.many<(K.length:Int):=hge;have cx:Cx S1 x y L K:=⟨i1,Ahz hI c1,⟨ix.1,ix.2.1⟩,⟨iy.1,iy.2.1⟩,by rw[ix.2.2,iy.2.2];omega,l1,l3,l4,k1,k3,by omega⟩
 have hx':x.toNat<S1.tb.length:=by have:=ix.2.1;unfold Sto.n at this;omega
 have hy':y.toNat<S1.tb.length:=by have:=iy.2.1;unfold Sto.n at this;omega
 refine⟨_,s2.st,rfl,?_⟩;refine Ag0 s2.lv hxs hys ⟨ix.1,by rw[i1.ll];exact hx'⟩ ⟨iy.1,by rw[i1.ll];exact hy'⟩ (by omega) λ_=>?_;obtain⟨s3,f3⟩:=s2.A9e (swL S1.lv k x y);refine⟨λn z H'=>n=L.length-z.1/\z.1<=L.length/\∃S',Ctt S1 (swL S1.lv k x y) x L z.1 S'/\Dc H' b S'/\FrN b S1 H1 H',⟨_,rfl,Nat.zero_le _,{S1 with lv:=swL S1.lv k x y},⟨rfl,i1.tn,λlo hi i=>?_,λv hv _=>i1.tg v hv⟩,s3,f2.trans f3.n rfl rfl rfl⟩,?_⟩
 .have:=i1.tg x.toNat hx' lo hi i;rw[show ((x.toNat:Nat):Int)=x by omega]at this;simpa using this
 rintro n ⟨q,_⟩ H3 ⟨hn0,hq0,S3,ct,s3,f3⟩;have hn:n=L.length-q:=hn0;have hq:q<=L.length:=hq0;replace ct:Ctt S1 (swL S1.lv k x y) x L q S3:=ct;clear hn0 hq0;have tb3:S3.tb=S1.tb:=by rw[ct.eq]
 refine⟨λhql _=>?_,λhql _=>?_⟩
 .have hql':q<L.length:=hql;obtain⟨e1,ct2⟩:=ct.step cx hql';have hx3:x.toNat<S3.tb.length:=by rw[tb3];exact hx'
  refine⟨hql',_,s3.st,λ_=>⟨λ_=>ix.1,by simpa [Sto.ob] using hx3,by simpa [Sto.ob] using hx3,rfl,?_⟩⟩;have hob:S3.ob.tables[x.toNat]'(by simpa [Sto.ob] using hx3)=some S3.tb[x.toNat]:=by simp [Sto.ob]
  rw[hob];refine Afz (s3.ta _ hx3) e1 ⟨by show q+1<=_;omega,L.length-(q+1),by omega,rfl,by show q+1<=_;omega,_,ct2,(s3.Awm hx3 _).1,f3.trans (s3.Awm hx3 _).2.n (by rw[ct.eq]) (by rw[ct.eq]) tb3⟩
 have hql':¬q<L.length:=hql;have:q=L.length:=by omega
 subst this;obtain⟨m0,sc0⟩:=ct.mid cx;have hrb1:∀i,rfA S1.po i<=576460752303423488:=λi=>by rw[c1.rf];exact hrb i
 refine⟨λn z H'=>n=L.length-z.1/\z.1<=L.length/\∃S',Mid S1 x y L K z.1 S'/\SC S' (rfA S1.po)/\Dc H' b S'/\FrN b S1 H1 H'/\S'.lv=swL S1.lv k x y,⟨_,rfl,Nat.zero_le _,S3,m0,sc0,s3,f3,by rw[ct.eq]⟩,?_⟩;rintro n2 ⟨q,_⟩ H4 ⟨hn0,hq0,S4,m4,sc4,s4,f4,v4⟩;have hn2:n2=L.length-q:=hn0;have hq:q<=L.length:=hq0;replace m4:Mid S1 x y L K q S4:=m4;clear hn0 hq0;refine⟨λhql _=>?_,λhql=>?_⟩
 .have hql':q<L.length:=hql;refine⟨hql',?_⟩;exact Axz (N:=λH'=>q+1<=9223372036854775807/\∃m,m<n2/\(m=L.length-(q+1)/\q+1<=L.length/\∃S',Mid S1 x y L K (q+1) S'/\SC S' (rfA S1.po)/\Dc H' b S'/\FrN b S1 H1 H'/\S'.lv=swL S1.lv k x y)) cx hrb1 m4 hql' sc4 s4 λS5 H5 m5 sc5 s5 f5 v5=>⟨by omega,L.length-(q+1),by omega,rfl,by omega,S5,m5,sc5,s5,f4.trans f5.n m4.bl m4.bp m4.tb,v5.trans v4⟩
 .have hql':¬q<L.length:=hql;have:q=L.length:=by omega
  subst this;obtain⟨i4,chg4⟩:=m4.si cx hxs hys sc4 v4;refine K5 s4 i4 λS5 H5 _ s5 i5 c5 f5=>?_;have hl0:S.lv=S1.lv:=c1.lv.symm;refine h S5 H5 x y (by omega) (by omega) (by rw[t0,hl0];exact hxs) (by rw[t0,hl0];exact hys) s5 i5 ((chg1.trans chg4).trans (Afo i4 i5 c5)) ?_ (by rw[t0,c5.lv,v4,hl0]) (Ahz i4 c5);exact(f1.trans f4 c1.bl c1.bp c1.tb).trans f5 (m4.bl.trans c1.bl) (m4.bp.trans c1.bp) (m4.tb.trans c1.tb)
end
end Go.Proofs.YtcbkbpjlbmalmaaGreatDoor
namespace Go.Proofs.YtcbkbpjlbmalmaaGreatDoor
open Go Go.X Go.Y Go.RowKit
section
set_option maxRecDepth 100000
abbrev Ajl:Ik:={err:=(0:Int),event:=false,ev:={Gx:=(0:Int),Kind:=(0:Int),Level:=(0:Int):Ch}}
variable {w:World}
theorem Aj5{P:Program}{f:Fr}{t ty:TypeId}{a:Nat}{v:Value}{p:Addr}{pos:String}{af:Array Edge}{d:Option Tmp}(h:(execOp (ev f) ⟨d,.load t (.tmp a),ty,pos,af,none⟩).run P w=.ok (.value v) w)(hp:f a=.pointer (some p)):(loadVar t p).run P w=.ok v w:=by
 simp only[execOp,Instr.loadAt,X.ev,hp,Instr.sureAddr,Sem.run_bind,Sem.run_pure,Result.andThen_ok]at h;cases hl:(loadVar t p).run P w with
 |ok u w'=>rw[hl]at h;simp only[Result.andThen_ok,Result.ok.injEq,Next.value.injEq]at h;rw[h.1,h.2]
 |halt x w'=>rw[hl]at h;simp [Result.andThen]at h
theorem A38{ρ:Operand->Value}{x:Operand}{g:Fn}{cap:Array Value}{t:TypeId}{P:Program}{ats:Array TypeId}(h:ρ x=.func g #[] cap):(resolve ρ {callee:=.value x,args:=#[],argTypes:=ats} t).run P w=.ok ⟨.fn g cap,#[]⟩ w:=by simp [resolve,h,Deferred.ofValue]
theorem Arz{bs bd:Nat}{us:List Value}{b:Bool}{f:Fr}{row:Array Value}{es ed:TypeId}{I:Reg}{T:Own}(h4:f 4=.pointer (some ⟨bs,0,none⟩))(h5:f 5=.pointer (some ⟨bd,0,none⟩))(hs:St I w ([(bs,.cells row es (0,0))]++([(bd,.cells #[.bool b] ed (0,0))]++T)))(hr:row.toList=us)(hl:us.length=5):∀a,Is 13 a f->(results Tryz.f227 a).run Y0.P w=.ok (.tuple #[.agg ⟨us⟩,.bool b]) w:=by
 intro a ha;have h231:tyB Y0.P 231 true 5=true:=by kernel_rfl
 have e1:(loadVar 231 ⟨bs,0,none⟩).run Y0.P w=.ok (.agg ⟨us⟩) w:=Aj5 (f:=f) (a:=4) (My (ty:=0) (λpos af K hk=>Abm (n:=5) h231 hs (by exact h4) (vs:=us) (by rw[hr,<-hl];simp) hl hk) none "" #[]) h4;have e2:(loadVar 4 ⟨bd,0,none⟩).run Y0.P w=.ok (.bool b) w:=Aj5 (f:=f) (a:=5) (My (ty:=0) (λpos af K hk=>Afg (by kernel_rfl) hs.Aip (by exact h5) rfl hk) none "" #[]) h5;have g4:a.getD 4 undef=.pointer (some ⟨bs,0,none⟩):=by rw[ha.2 4,h4]
 have g5:a.getD 5 undef=.pointer (some ⟨bd,0,none⟩):=by rw[ha.2 5,h5]
 have hR:Tryz.f227.results.toList=[.cell 4 231,.cell 5 4]:=rfl;refine Kh (vs:=[.agg ⟨us⟩,.bool b]) ?_;rw[hR];simp [List.mapM_cons,Y3,g4,g5,asAddr,e1,e2]
noncomputable def A9a(X:PX):Env Y0:={N:=13,fty:=Adt,sigs:=sg,pf:=pfT,X:=X,lp:=[],jn:=[],pr:=[(10,Gr)],im:=[]}
theorem Asd{ops:Array Oper}{t:Nat}(h:ops.toList.all (λo=>o.dst != some t)=true):Avr ops t:=λi o ho=>by have:=List.all_eq_true.1 h o (by rw[Array.getElem?_eq_some_iff]at ho;obtain⟨h1,h2⟩:=ho;rw[<-h2];simp);simpa using this
def A7f(m:Option Nat)(op:FT Y0 [.ptr] [])(H:HY):Cf Y0:={fr:=[(0,.ptr 0 m),(1,.fn [.ptr] [] op)],sg:=[],nx:=1,H:=H,op:=none,hs:=[],pt:=[4,5]}
theorem Aqp{bm:Option Nat}{op:FT Y0 [.ptr] []}{H:HY}{Q:Ik×Bool×Unit->UU}{X:PX}(h:∀b,H b=none->op (some b,()) (Ab H b (Ob.st (Y:=Y0) Gr (⟨bm⟩:Fk))) (λ_ H'=>Q (Ajl,true,()) () H') (λt l H'=>∃st:Ik,t=231/\l=⟨.u 15,st⟩/\Q (st,false,()) () H')):Wp Y0 Aci Nq (bm,op,()) H Q X:=by
 intro I w T A AH vs hargs hH hst;have hlen:=Amu hargs;have hz:∃z,zrB Y0.P 231 z/\z.cells.size=5:=⟨.agg #[.int .i64 0,.bool false,.int .i64 0,.int .i64 0,.int .i64 0],by unfold zrB;kernel_rfl,rfl⟩
 obtain⟨z,hz1,hz2⟩:=hz;have hzb:zrB Y0.P 4 (.bool false):=by unfold zrB;kernel_rfl
 obtain⟨v0,vs0,e0,hr0,v1,vs1,e1,hr1,e2,e3⟩:=hargs;subst e3 e2 e1 e0;obtain⟨x1,s1⟩:=hst.alloc (.cells z.cells 231);obtain⟨x2,s2⟩:=s1.alloc (.cells (Value.bool false).cells 4);refine Zz (F:=Tryz.f227) (N:=13) (by kernel_rfl) rfl rfl rfl ?_;generalize hf0:fr0 [v0,v1]=f0;have f00:f0 0=v0:=by rw[<-hf0];rfl
 have f01:f0 1=v1:=by rw[<-hf0];rfl
 have fin:∀{I':Reg}{w':World}{AH':Own}{H':HY}{st:Ik}{b:Bool}{us:List Value},Ext I w I' w'->St I' w' (AH'++T)->HpR (HK' Y0) I' w' H' AH'->rp Y0.toUS (.u 15) I' w' (.agg ⟨us⟩) st->Q (st,b,()) () H'->
   (Atu I w (λv I' w'=>∃AH' A' H',St I' w' (AH'++(A'++T))/\HpR (HK' Y0) I' w' H' AH'/\∃b io us A1 A2,A'=A1++A2/\v=Qe us/\ReR Y0 I' w' Nq.res b us A1/\IoR Y0 I' w' Nq.args io [v0,v1] A2/\Q b io H') (λv I' w'=>∃AH' H' t l u,St I' w' (AH'++T)/\HpR (HK' Y0) I' w' H' AH'/\v=.iface t u/\rp Y0.toUS l.t I' w' u l.x/\X t l H')) (.returned (.tuple #[.agg ⟨us⟩,.bool b])) w':=λ{I' w' AH' H' st b us}k1 k2 k3 k4 k5=>
  .inl ⟨_,I',rfl,k1,AH',[],H',k2,k3,(st,b,()),(),[.agg ⟨us⟩,.bool b],[],[],rfl,rfl,⟨_,_,rfl,k4,_,_,rfl,Nt.2 rfl,rfl,rfl⟩,rfl,k5⟩
 refine Fo (Ef (Ax (Ade hz1 _ _ _ _) (Ax (Ade hzb _ _ _ _) ?_)));have hsz:(w.alloc (.cells z.cells 231)).heap.size=w.heap.size+1:=by simp
 rw[hsz]at s2 ⊢;generalize w.heap.size=bs at s1 s2 ⊢;generalize hw2:(w.alloc (.cells z.cells 231)).alloc (.cells (Value.bool false).cells 4)=w2 at s2 x2 ⊢;generalize hf1:put 13 (put 13 f0 (some 4) (.pointer (some ⟨bs,0,none⟩))) (some 5) (.pointer (some ⟨bs+1,0,none⟩))=f1;have f10:f1 0=v0:=by rw[<-hf1,Bw (by decide),Bw (by decide),f00]
 have f11:f1 1=v1:=by rw[<-hf1,Bw (by decide),Bw (by decide),f01]
 have f14:f1 4=.pointer (some ⟨bs,0,none⟩):=by rw[<-hf1,Bw (by decide),E7 (by decide)]
 have f15:f1 5=.pointer (some ⟨bs+1,0,none⟩):=by rw[<-hf1,E7 (by decide)]
 clear hf1;refine Fo (Am0 (os:=[_]) rfl rfl (Agk rfl rfl ?_));refine⟨⟨.fn (.func 256) #[.pointer (some ⟨bs+1,0,none⟩),.pointer (some ⟨bs,0,none⟩)],#[]⟩,w2,?_,?_⟩
 .have h6:(put 13 f1 (some 6) (.func (.func 256) #[] ⟨[f1 5,f1 4]⟩)) 6=.func (.func 256) #[] ⟨[f1 5,f1 4]⟩:=E7 (by decide);have h6':ev (put 13 f1 (some 6) (.func (.func 256) #[] ⟨[f1 5,f1 4]⟩)) (.tmp 6)=.func (.func 256) #[] ⟨[f1 5,f1 4]⟩:=h6;have hv:ev (put 13 f1 (some 6) (.func (.func 256) ⟨List.map (ev f1) (#[]:Array Operand).toList⟩ ⟨List.map (ev f1) (#[.tmp 5,.tmp 4]:Array Operand).toList⟩)) (.tmp 6)=.func (.func 256) #[] #[.pointer (some ⟨bs+1,0,none⟩),.pointer (some ⟨bs,0,none⟩)]:=h6'.trans (by rw[f15,f14]);exact A38 hv
 generalize hf2:put 13 f1 (some 6) _=f2;have f20:f2 0=v0:=by rw[<-hf2,Bw (by decide),f10]
 have f21:f2 1=v1:=by rw[<-hf2,Bw (by decide),f11]
 have f24:f2 4=.pointer (some ⟨bs,0,none⟩):=by rw[<-hf2,Bw (by decide),f14]
 have f25:f2 5=.pointer (some ⟨bs+1,0,none⟩):=by rw[<-hf2,Bw (by decide),f15]
 clear hf2;have x12:=x1.trans x2;let gi:Gst:={I:=I,w:=w,n:=0,μ:=λ_=>undef,φ:=fr0 [v0,v1]}
 let g:Gst:={I:=I,w:=w2,n:=1,μ:=λ_=>v0,φ:=f2}
 have hr:RG gi ((bs+1,.cells (Value.bool false).cells 4 (0,0))::(bs,.cells z.cells 231 (0,0))::T) (A7f bm op H) f2 g AH []:=by
  refine⟨rfl,x12,?_,?_,rfl,λx hx=>(by cases hx),λt ht=>rfl,?_⟩
  .have:St I w2 ((bs+1,.cells (Value.bool false).cells 4 (0,0))::((bs,.cells z.cells 231 (0,0))::(AH++([]++T)))):=s2;have pp:∀a b:Nat×Obj,(a::b::(AH++([]++T))).Perm (AH++([]++(a::b::T))):=λa b=>List.perm_append_comm_assoc [a,b] AH T;exact this.perm (pp _ _)
  .exact HpR.mono hH x12
  .intro i a hi;unfold A7f lkF at hi;dsimp only at hi;split at hi
   .rename_i e;cases hi;subst e;exact⟨Nat.zero_lt_one,rfl.trans f20.symm,by rw[f20];exact Re.1 hr0⟩
   .unfold lkF at hi;split at hi
    .rename_i e;cases hi;subst e;show FvR _ _ _ _ _ _ _;rw[f21];exact Go.Y.FvR.mono Y0 x12 hr1
    .cases hi
 let X1:PX:=λt l H'=>∃st:Ik,t=231/\l=⟨.u 15,st⟩/\Q (st,false,()) () H';let B:Own:=(bs+1,.cells (Value.bool false).cells 4 (0,0))::(bs,.cells z.cells 231 (0,0))::T;let Rp:List PanicEntry->World->Prop:=λch w'=>∃u st I' AH' H',ch=[{v:=.iface 231 u,recovered:=false}]/\Ext I w I' w'/\rp Y0.toUS (.u 15) I' w' u st/\St I' w' (AH'++B)/\HpR (HK' Y0) I' w' H' AH'/\Q (st,false,()) () H';have hPan:Kz gi B X1 Rp:=by intro v w' I' AH' H' t l u k1 k2 k3 k4 k5 ⟨st,k6,k7,k8⟩;subst k6 k7 k4;exact⟨u,st,I',AH',H',rfl,k1,k5,k2,k3,k8⟩
 have inv:∀w',(invoke (.fn (.func 256) #[.pointer (some ⟨bs+1,0,none⟩),.pointer (some ⟨bs,0,none⟩)]) #[]).run Y0.P w'=.ok (.enter 256 ⟨[.pointer (some ⟨bs+1,0,none⟩),.pointer (some ⟨bs,0,none⟩)]⟩) w':=λw'=>by
  have hc:En Y0.P 256=true:=by kernel_rfl
  simp [invoke,Tz hc]
 have frm:∀{I':Reg}{w':World}{AH':Own}{a b:Nat×Obj},St I' w' (AH'++(a::b::T))->St I' w' ([b]++([a]++(AH'++T))):=λ{I' w' AH' a b}h=>
  h.perm (((List.perm_append_comm_assoc AH' [a,b] T)).trans (List.Perm.swap _ _ _))
 refine Fo (Ad5 (Rp:=Rp) (λch w' f' hf'⟨u,st,I',AH',H',k1,k2,k3,k4,k5,k6⟩=>?_) (Aav (E:=A9a X1) (g0:=gi) (g:=g) (T:=B) hPan _ hr (k:=λc'=>chk (Vu [4,5] c'.pt) (cls c' λc=>Q (Ajl,true,()) () c.H)) (Eq.mp (by kernel_rfl) h) λc' f' g' AH' A' hle hr' hx'=>?_))
 .subst k1;have f4:f' 4=.pointer (some ⟨bs,0,none⟩):=by rw[hf' 4 (Asd rfl),f24]
  have f5:f' 5=.pointer (some ⟨bs+1,0,none⟩):=by rw[hf' 5 (Asd rfl),f25]
  show Lv _ _ _ _ _ [_] _ _;refine⟨by simp,.inr ⟨_,_,256,_,rfl,inv w',CallsD.mono (Awb (frm k4) ?_ k3) ?_⟩⟩
  .exact hz2
  .rintro e u' w'' ⟨rfl,rfl,x3,row,hrow,s3⟩;obtain⟨us,rfl,hF⟩:=Lc.1 k3;have hus:us.length=5:=by rw[hF.len];rfl
   exact⟨_,Arz f4 f5 s3 hrow hus,fin (k2.trans x3) s3.drop.drop (HpR.mono k5 x3) (Ig x3 k3) k6⟩
 obtain⟨hsub,hx'⟩:=Bj hx';obtain⟨c1,g1,AH1,A1,hq,hw1,hle1,h1,_,hop1⟩:=Fi hr' hx';rw[<-hw1];have f4:f' 4=.pointer (some ⟨bs,0,none⟩):=(hr'.pt 4 (Xr hsub rfl)).trans (by rw[hle.φ];exact f24);have f5:f' 5=.pointer (some ⟨bs+1,0,none⟩):=(hr'.pt 5 (Xr hsub rfl)).trans (by rw[hle.φ];exact f25);have hb:A2k c1 231 #[] (λa=>a=.dat (.u 15) Ajl)=((AV.dat (.u 15) Ajl:AV Y0)=.dat (.u 15) Ajl):=by kernel_rfl
 obtain⟨v,a,rfl,hv,hy⟩:=Atn (ty:=231) (t:=231) (ps:=#[]) h1 (hb▸rfl);have hv:rp Y0.toUS (.u 15) g1.I g1.w v Ajl:=hv;obtain⟨us,rfl,hF⟩:=Lc.1 hv;have hus:us.length=5:=by rw[hF.len];rfl
 have huc:(Value.agg ⟨us⟩).cells=⟨us⟩:=rfl;have hone:∀v∈(Value.agg ⟨us⟩).cells.toList,v.oneCell'=true:=Ah7 hF X6;have h231:tyB Y0.P 231 true 5=true:=by kernel_rfl
 have h4b:tyB Y0.P 4 false 1=true:=by kernel_rfl
 have s3:=frm (AH':=AH1++A1) (by rw[List.append_assoc];exact h1.st);obtain⟨w3,row3,r3,x3,s4,hr3⟩:=Go.Y.storeCells (P:=Y0.P) (t:=231) (y:=.agg ⟨us⟩) (o:=0) (n:=5) h231 s3 (by rw[huc];exact hus) hone (by show 0+5<=z.cells.size;omega);have hr3':row3.toList=us:=by
  rw[hr3,huc];have:z.cells.toList.length=5:=by simpa using hz2
  simp [List.drop_eq_nil_of_le,this]
 obtain⟨w4,row4,r4,x4,s5,hr4⟩:=Go.Y.storeCells (P:=Y0.P) (t:=4) (y:=.bool true) (o:=0) (n:=1) h4b s4.Aip rfl (by intro v hv;simp [Value.cells]at hv;subst hv;rfl) (by decide);have hr4':row4=#[.bool true]:=by apply Array.toList_inj.1;rw[hr4];rfl
 subst hr4';refine Fo (Ef (Ax (hy g1.w _ _ _ _) (Uj (Alb (p:=.pointer (some ⟨bs,0,none⟩)) (v:=.agg ⟨us⟩) ?_ ?_ r3 _ _ _ _) (Uj (Alb (p:=.pointer (some ⟨bs+1,0,none⟩)) (v:=.bool true) ?_ rfl r4 _ _ _ _) ?_))))
 .show put 13 f' (some 12) (.agg ⟨us⟩) 4=_;rw[Bw (by decide),f4]
 .exact E7 (by decide)
 .show put 13 f' (some 12) (.agg ⟨us⟩) 5=_;rw[Bw (by decide),f5]
 generalize hg:put 13 (put 13 (put 13 f' (some 12) (.agg ⟨us⟩)) none undef) none undef=f2';have f24':f2' 4=.pointer (some ⟨bs,0,none⟩):=by rw[<-hg];show put 13 f' (some 12) (.agg ⟨us⟩) 4=_;rw[Bw (by decide),f4]
 have f25':f2' 5=.pointer (some ⟨bs+1,0,none⟩):=by rw[<-hg];show put 13 f' (some 12) (.agg ⟨us⟩) 5=_;rw[Bw (by decide),f5]
 refine Ui ?_;show Lv _ _ _ _ _ [_] _ _;refine⟨by simp,.inr ⟨_,_,256,_,rfl,inv w4,CallsD.mono (Awa s5) ?_⟩⟩;rintro e u' w'' ⟨rfl,rfl,rfl⟩;have hH1:=h1.hr;rw[hop1]at hH1;have s7:St g1.I w'' (AH1++(A1++T)):=by have:=s5.Aip.drop.drop;rw[List.append_assoc]at this;exact this
 exact⟨_,Arz f24' f25' s5.Aip hr3' hus,fin (h1.le.trans (x3.trans x4)) (Fv s7) (HpR.mono hH1 (x3.trans x4)) (Ig (x3.trans x4) hv) hq⟩
end
end Go.Proofs.YtcbkbpjlbmalmaaGreatDoor
namespace Go.Proofs.YtcbkbpjlbmalmaaGreatDoor
open Go Go.X Go.Y
section
def FrH(b:Nat)(M:Mn)(H H':HY):Prop:=∀c,H c≠none->c≠b->c≠M.mb->c≠M.sb->c≠M.S.bl->c≠M.S.bp->c∉M.S.tb->H' c=H c
variable {b:Nat} {M:Mn} {H H':HY}
theorem FrM.h(f:FrM b M H H'):FrH b M H H':=λc _ a1 a2 a3 a4 a5 a6=>f c a1 a2 a3 a4 a5 a6
theorem FrN.frh(f:FrN M.sb M.S H H'):FrH b M H H':=λc a0 _ _ a3 a4 a5 a6=>f c a0 a3 a4 a5 a6
theorem FrH.refl:FrH b M H H:=λ_ _ _ _ _ _ _ _=>rfl
variable {M':Mn}
theorem FrH.trans{H'':HY}(h:FrH b M H H')(k:FrH b M' H' H'')(e:F8 M M'):FrH b M H H'':=λc a0 a1 a2 a3 a4 a5 a6=>by have e1:=h c a0 a1 a2 a3 a4 a5 a6;rw[k c (by rw[e1];exact a0) a1 (by rw[e.mb];exact a2) (by rw[e.sb];exact a3) (by rw[e.bl];exact a4) (by rw[e.bp];exact a5) (by rw[e.tb];exact a6),e1]
theorem MnH.old(h:MnH H b M)(f:∀c,H c≠none->H' c=H c):MnH H' b M:=
 ⟨by rw[f _ (by rw[h.ob];simp)];exact h.ob,h.st.old f,by rw[f _ (by rw[h.me];simp)];exact h.me⟩
def Mn.ws_(M:Mn)(S:Sto):Mn:={M with S:=S}
theorem MnH.Adb{S:Sto}(h:MnH H b M)(hS:Dc H' M.sb S)(f:FrN M.sb M.S H H'):MnH H' b (M.ws_ S):=by
 have key:∀{c m:Nat}{x:Y0.O m},H c=some (.st m x)->m≠A8->m≠Eb->m≠Ek->m≠Ct->H' c=some (.st m x):=λ{c m x}hc h1 h2 h3 h4=>by
  rw[f c (by rw[hc];simp) (By hc h.st.st h1) (By hc h.st.lv h2) (By hc h.st.po h3) (λhm=>?_)]
  .exact hc
  .obtain⟨v,hv,e⟩:=List.mem_iff_getElem.1 hm;exact By hc (h.st.ta v hv) h4 e.symm
 exact⟨key h.ob (by decide) (by decide) (by decide) (by decide),hS,key h.me (by decide) (by decide) (by decide) (by decide)⟩
theorem MnH.A34(h:MnH H b M)(m:Ce):MnH (Ab H M.mb (.st Da m)) b (M.wm m)/\FrM b M H (Ab H M.mb (.st Da m)):=by
 refine⟨⟨?_,?_,Aj _ _ _⟩,λx _ a2 _ _ _ _=>Ad _ _ a2⟩
 .rw[Ad _ _ (By h.ob h.me (by decide))];exact h.ob
 .exact h.st.other h.me (by decide) (by decide) (by decide) (by decide)
structure Kp(M M':Mn):Prop where
 bs:F8 M M'
 hs:M'.hs=M.hs
 nx:M'.nx=M.nx
 room:M'.S.po.room=M.S.po.room
 Ba:∀g,M'.Ba g=M.Ba g
 ws:M'.ws.length<=M.ws.length
theorem Kp.refl:Kp M M:=⟨.refl,rfl,rfl,rfl,λ_=>rfl,Nat.le_refl _⟩
theorem Kp.trans{M'':Mn}(h:Kp M M')(k:Kp M' M''):Kp M M'':=⟨h.bs.trans k.bs,k.hs.trans h.hs,k.nx.trans h.nx,k.room.trans h.room,λg=>(k.Ba g).trans (h.Ba g),Nat.le_trans k.ws h.ws⟩
theorem Kp.n(h:Kp M M'):M'.S.n=M.S.n:=by unfold Sto.n;rw[h.bs.tb]
theorem Stp.kp(hI:MI M)(h:Stp M M')(hw:M'.ws.length<=M.ws.length):MI M'/\Kp M M':=by obtain⟨h1,h2⟩:=hI.ext h.hs h.nx h.si h.se;exact⟨h1,h.bs,h.hs,h.nx,h.se.room,h2,hw⟩
theorem MI.held(h:MI M){g e:Int}(he:Ac M.hs g=some e):e/2=0∨0<rfA M.S.po (e/2):=by
 by_cases h0:e/2=0
 .exact .inl h0
 .right;rw[h.rf _ h0];have key:∀{m:List (Int×Int)}{g:Int},Ac m g=some e->0<Qg m (e/2):=by
   intro m;induction m with
   |nil=>intro g h;cases h
   |cons p m ih=>
    intro g h;have h:(if p.1=g then some p.2 else Ac m g)=some e:=h;have h1:=@B.Ku p.2 (e/2);have h2:=@X5 (e/2) m;simp only[Qg];split at h
    .cases h;have:=@B.Lj p.2;omega
    .have:=ih h;omega
  exact key he
theorem MI.chg(h:MI M){S:Sto}(hS:SI S)(c:Chg M.S S):MI (M.ws_ S)/\Kp M (M.ws_ S):=by have key:∀{g e},Ac M.hs g=some e->B.Ok (tbl S.po) e/\B.den (tbl S.po) e=B.den (tbl M.S.po) e:=λ{g e}he=>c.ok e (h.ok g e he).1 (h.held he);refine⟨⟨hS,h.nd,λg e he=>⟨(key he).1,(h.ok g e he).2⟩,h.k0,h.k1,h.nx,λi hi=>(c.rf i).trans (h.rf i hi),h.ln⟩,⟨rfl,rfl,c.bl,c.bp,c.tb⟩,rfl,rfl,c.room,λg=>?_,Nat.le_refl _⟩;show (Ac M.hs g).map (B.den (tbl S.po))=(Ac M.hs g).map (B.den (tbl M.S.po));exact A3h λe he=>(key he).2
theorem MV.empty(h1:MeI M.me)(h2:∀e,Ajg M.me e->e.full=false):MV M:=⟨h1,λe he hf _=>by rw[h2 e he]at hf;cases hf⟩
def Mn.fs(M:Mn):List B.Fn:=M.hs.map λp=>B.den M.T p.2
theorem MI.A6i(h:MI M)(hl:∀i d,M.T i=some d->0<cnA M.S.cn i):B.Aat M.S.n M.lv M.T M.fs:=by
 refine h.si.sc.cn.A6i h.si.C6 Sto.P4 hl λi d hd hr=>?_;have hi0:=(h.si.C6.var hd).1;rw[h.rf i (by omega)]at hr;have key:∀{m:List (Int×Int)},0<Qg m i->∃p∈m,p.2/2=i:=by
  intro m;induction m with
  |nil=>intro h;simp [Qg]at h
  |cons p m ih=>
   intro h;simp only[Qg]at h;by_cases hp:p.2/2=i
   .exact⟨p,List.mem_cons_self,hp⟩
   .have:B.dl p.2 i=0:=if_neg hp;obtain⟨q,hq,e⟩:=ih (by omega);exact⟨q,List.mem_cons_of_mem _ hq,e⟩
 obtain⟨p,hp,e⟩:=key hr;have ho:=(h.ok p.1 p.2 (Lz h.nd hp)).1;refine⟨_,List.mem_map_of_mem hp,decide (p.2%2=1),λa=>?_⟩;have h4:2*i=B.fl p.2 p.2:=by
  unfold B.fl B.flip;split
  .rename_i h5;rw[if_neg (by omega)];omega
  .omega
 rw[h4,B.N6 ho]
theorem MI.A8o(h:MI M):∀f∈M.fs,B.RD M.S.n f:=λf hf=>by obtain⟨p,hp,rfl⟩:=List.mem_map.1 hf;exact h.si.C6.rd (h.ok p.1 p.2 (Lz h.nd hp)).1
theorem Aui{p:Av}(h:Iw p):∃l:List Int,l.Nodup/\(∀i∈l,∃n,pNd p i=some n)/\p.many<=(l.length:Int):=by
 let l:List Int:=((List.range p.at_.length).map λk:Nat=>(k:Int)).filter λi=>pTk p i;refine⟨l,?_,λi hi=>?_,?_⟩
 .refine List.Pairwise.filter _ ?_;rw[List.pairwise_map];exact List.nodup_range.imp λh e=>h (by omega)
 .obtain⟨n,hn,_⟩:=(h.tk (List.mem_filter.1 hi).2).2.2;exact⟨n,hn⟩
 .have key:(((List.range (p.at_.length-1)).map λk:Nat=>((k+1:Nat):Int))).length<=(l++p.free).length:=by
   refine Na ?_ λi hi=>?_
   .rw[List.Nodup,List.pairwise_map];exact List.nodup_range.imp λh e=>h (by omega)
   .obtain⟨k,hk,rfl⟩:=List.mem_map.1 hi;have hk:=List.mem_range.1 hk;have hk1:k+1<p.taken.length:=by rw[<-h.ln];omega
    cases ht:p.taken[k+1] with
    |true=>
     refine List.mem_append_left _ (List.mem_filter.2 ⟨List.mem_map.2 ⟨k+1,List.mem_range.2 (by omega),rfl⟩,?_⟩);show pTk p _=true;rw[Alq hk1,ht]
    |false=>exact List.mem_append_right _ (h.al (k+1) (by omega) (by rw[List.getElem?_eq_getElem hk1,ht]))
  rw[List.length_map,List.length_range,List.length_append]at key;have:=h.cnt;have:=h.pos;omega
theorem A0q(h:SI M.S)(h8:M.S.n<=8){R:List B.Fn}(hR:∀f∈R,B.RD M.S.n f)(hc:B.Aat M.S.n M.lv M.T R):M.S.po.many<=65536+15*(R.length:Int):=by
 obtain⟨l,h1,h2,h3⟩:=Aui h.sc.po;have:=B.Aat.few h.C6 Sto.P4 h8 hR hc l h1 λi hi=>by obtain⟨n,hn⟩:=h2 i hi;exact⟨_,Ln hn⟩
 omega
theorem Agx{X:PX}{Q:Int×Unit->UU}(hM:MnH H b M)(hI:MI M)(hV:MeI M.me)(h:∀M' H' k,MnH H' b M'->MI M'->MV M'->Kp M M'->M'.ws=M.ws->(∀i d,M'.T i=some d->0<cnA M'.S.cn i)->FrH b M H H'->Q (k,()) () H'):Wp Y0 O0 La (some b,()) H Q X:=by refine Adw _ _ _ _ ?_;unfold Ue;refine⟨λh=>absurd h (by simp),λ_=>⟨b,rfl,M.ob,hM.ob,rfl,Tc hM.me hV λm' hm' hf=>?_⟩⟩;obtain⟨h1,f1⟩:=hM.A34 m';refine⟨_,h1.ob,rfl,K5 h1.st hI.si λS' H' k s1 i1 c1 f2=>?_⟩;obtain⟨k1,k2⟩:=hI.chg i1 (Afo hI.si i1 c1);refine h ((M.wm m').ws_ S') H' k (h1.Adb s1 f2) ⟨i1,k1.nd,k1.ok,k1.k0,k1.k1,k1.nx,k1.rf,k1.ln⟩ (MV.empty hm' hf) ⟨⟨rfl,rfl,k2.bs.bl,k2.bs.bp,k2.bs.tb⟩,k2.hs,k2.nx,k2.room,k2.Ba,k2.ws⟩ rfl (Ahz hI.si c1) ?_;exact f1.h.trans (M':=M.wm m') (FrN.frh (M:=M.wm m') f2) ⟨rfl,rfl,rfl,rfl,rfl⟩
theorem Aof{level:Int}{X:PX}{Q:Int×Unit->UU}(hM:MnH H b M)(hI:MI M)(hV:MeI M.me)(hn:M.nx<576460752303423488)(h2:¬(0<=level/\level<M.S.n-1)->∀M' H',MnH H' b M'->MI M'->MV M'->Kp M M'->M'.ws=M.ws->FrH b M H H'->Q (2,()) () H')(h7:∀M' H',(∃i d,M.T i=some d)->MnH H' b M'->MI M'->MV M'->Kp M M'->M'.ws=M.ws->FrH b M H H'->Q (7,()) () H')(h:∀M' H'(x y:Int),0<=level->level<M.S.n-1->M.S.lv.vars[level.toNat]?=some x->M.S.lv.vars[level.toNat+1]?=some y->MnH H' b M'->MI M'->MV M'->Kp M M'->M'.ws=M.ws->FrH b M H H'->M'.S.lv=swL M.S.lv level.toNat x y->(∀i d,M'.T i=some d->0<cnA M'.S.cn i)->Q (0,()) () H'):Wp Y0 L3 Jr (some b,level,()) H Q X:=by
 refine Aix _ _ _ _ _ ?_;unfold Ze;refine⟨λh=>absurd h (by simp),λ_=>⟨b,rfl,M.ob,hM.ob,rfl,Tc hM.me hV λm' hm' hf=>?_⟩⟩;obtain⟨h1,f1⟩:=hM.A34 m';have mk:∀{S' H'},Dc H' M.sb S'->SI S'->Chg M.S S'->FrN M.sb M.S (Ab H M.mb (.st Da m')) H'->MnH H' b ((M.wm m').ws_ S')/\MI ((M.wm m').ws_ S')/\MV ((M.wm m').ws_ S')/\Kp M ((M.wm m').ws_ S')/\FrH b M H H':=λ{S' H'}s1 i1 c1 f2=>by obtain⟨k1,k2⟩:=hI.chg i1 c1;exact⟨h1.Adb s1 f2,⟨i1,k1.nd,k1.ok,k1.k0,k1.k1,k1.nx,k1.rf,k1.ln⟩,MV.empty hm' hf,⟨⟨rfl,rfl,k2.bs.bl,k2.bs.bp,k2.bs.tb⟩,k2.hs,k2.nx,k2.room,k2.Ba,k2.ws⟩,f1.h.trans (M':=M.wm m') (FrN.frh (M:=M.wm m') f2) ⟨rfl,rfl,rfl,rfl,rfl⟩⟩
 refine⟨_,h1.ob,rfl,Y1 (S:=M.S) h1.st hI.si (λi=>?_) (λhl=>?_) (λS' H' he s1 i1 c1 f2 _=>?_) λS' H' x y q1 q2 q3 q4 s1 i1 c1 f2 hlv hlive=>?_⟩
 .by_cases e:i=0
  .rw[e,Ar7 hI.si.sc.po];omega
  .rw[hI.rf i e];have:=@X5 i M.hs;have:=hI.ln;omega
 .obtain⟨a1,a2,a3,a4,a5⟩:=mk (S':=M.S) h1.st hI.si Chg.refl FrN.refl;exact h2 hl _ _ a1 a2 a3 a4 rfl a5
 .obtain⟨a1,a2,a3,a4,a5⟩:=mk s1 i1 c1 f2;exact h7 _ _ he a1 a2 a3 a4 rfl a5
 .obtain⟨a1,a2,a3,a4,a5⟩:=mk s1 i1 c1 f2;exact h _ _ x y q1 q2 q3 q4 a1 a2 a3 a4 rfl a5 hlv hlive
end
section
def A68:Prop:=∀(o:List Int)(H:HY)(X:PX)(Q:List Int×Int×Unit->UU),o.length<=64->(∀l e,l.length<=1000000->Q (l,e,()) () H)->Wp Y0 Aej Wh (o,()) H (λb _ H'=>Wp Y0 Acf Ur (o,b.1,()) H' Q X) X
def EvK(ev:Ch):Prop:=ev.Kind=1∨ev.Kind=2∨A68
structure MG(H:HY)(b:Nat)(M:Mn):Prop where
 h:MnH H b M
 i:MI M
 v:MV M
 e:∀ev∈M.ws,EvK ev
 n8:M.S.n<=8
 rm:M.S.po.room=1048576
variable {b:Nat} {M:Mn} {H:HY}
theorem A2f{m':Ce}{S':Sto}{H0 H':HY}(hI:MI M)(h1:MnH H b (M.wm m'))(hm':MeI m')(hf:∀e,Ajg m' e->e.full=false)(f1:FrH b M H0 H)(s1:Dc H' M.sb S')(i1:SI S')(c1:Chg M.S S')(f2:FrN M.sb M.S H H'):MnH H' b ((M.wm m').ws_ S')/\MI ((M.wm m').ws_ S')/\MV ((M.wm m').ws_ S')/\Kp M ((M.wm m').ws_ S')/\FrH b M H0 H':=by obtain⟨k1,k2⟩:=hI.chg i1 c1;exact⟨h1.Adb s1 f2,⟨i1,k1.nd,k1.ok,k1.k0,k1.k1,k1.nx,k1.rf,k1.ln⟩,MV.empty hm' hf,⟨⟨rfl,rfl,k2.bs.bl,k2.bs.bp,k2.bs.tb⟩,k2.hs,k2.nx,k2.room,k2.Ba,k2.ws⟩,f1.trans (M':=M.wm m') (FrN.frh (M:=M.wm m') f2) ⟨rfl,rfl,rfl,rfl,rfl⟩⟩
theorem A37(hI:MI M)(hn:M.nx<576460752303423488)(i:Int):rfA M.S.po i<=576460752303423488:=by
 by_cases e:i=0
 .rw[e,Ar7 hI.si.sc.po];omega
 .rw[hI.rf i e];have:=@X5 i M.hs;have:=hI.ln;omega
variable {X:PX}
theorem Wg{S:Sto}{Q:List Int×Unit->UU}(hS:Dc H b S)(hn:S.lv.vars.length<=64)(h:Q (S.lv.vars,()) () H):Wp Y0 F7 Ey (some b,()) H Q X:=by refine Yo _ _ _ _ ?_;unfold Qu;refine⟨λh=>absurd h (by simp),λ_=>⟨b,rfl,S.ob,hS.st,S.bl,rfl,rfl,S.lv,hS.lv,by omega,?_⟩⟩;rw[Q5 hS.lv];exact h
theorem Ais{ev:Ch}{Q:Unit->UU}(hM:MnH H b M)(hI:MI M)(hV:MeI M.me)(hn:M.nx<576460752303423488)(hE:EvK ev)(h:∀M' H',MnH H' b M'->MI M'->MV M'->Kp M M'->M'.ws=M.ws->FrH b M H H'->Q () () H'):Wp Y0 Qi L7 (some b,ev,()) H Q X:=by
 refine Ae7 _ _ _ _ _ ?_;unfold Vk;refine⟨b,rfl,M.ob,hM.ob,rfl,Tc hM.me hV λm' hm' hf=>?_⟩;obtain⟨h1,f1⟩:=hM.A34 m';have vl:M.S.lv.vars.length<=64:=by have:=hI.si.C6.od.n64;have:=hI.si.vl;unfold Sto.n at *;omega
 have swap:∀{S1:Sto}{lev:Int}{H1:HY}{Q:Int×Unit->UU},Dc H1 M.sb S1->SI S1->Chg M.S S1->FrN M.sb M.S (Ab H M.mb (.st Da m')) H1->(∀e S2 H2,Dc H2 M.sb S2->SI S2->Chg M.S S2->FrN M.sb M.S (Ab H M.mb (.st Da m')) H2->Q (e,()) () H2)->Wp Y0 Ff Ed (some M.sb,lev,()) H1 Q X:=λ{S1 lev H1 Q}s1 i1 c1 f2 hq=>by refine Y1 s1 i1 (λi=>by rw[c1.rf];exact A37 hI hn i) (λ_=>hq 2 S1 H1 s1 i1 c1 f2) (λS' H' _ s2 i2 c2 f3 _=>hq 7 S' H' s2 i2 (c1.trans c2) (f2.trans f3 c1.bl c1.bp c1.tb)) λS' H' _ _ _ _ _ _ s2 i2 c2 f3 _ _=>hq 0 S' H' s2 i2 (c1.trans c2) (f2.trans f3 c1.bl c1.bp c1.tb)
 have fin:∀{S2 H2},Dc H2 M.sb S2->SI S2->Chg M.S S2->FrN M.sb M.S (Ab H M.mb (.st Da m')) H2->Q () () H2:=λ{S2 H2}s2 i2 c2 f3=>by obtain⟨a1,a2,a3,a4,a5⟩:=A2f hI h1 hm' hf f1.h s2 i2 c2 f3;exact h _ H2 a1 a2 a3 a4 rfl a5
 refine⟨λ_=>⟨_,h1.ob,rfl,K5 h1.st hI.si λS' H' k s1 i1 c1 f2=>fin s1 i1 (Afo hI.si i1 c1) f2⟩,λhk1=>⟨λ_=>⟨_,h1.ob,rfl,swap h1.st hI.si Chg.refl FrN.refl λe S2 H2 s2 i2 c2 f3=>fin s2 i2 c2 f3⟩,λhk2=>⟨_,h1.ob,rfl,Wg h1.st vl ?_⟩⟩⟩;refine(hE.resolve_left hk1).resolve_left hk2 M.S.lv.vars _ X _ vl λl e hl _=>?_;refine⟨λn z H'=>z.1=l/\n=l.length-z.2.1/\z.2.1<=l.length/\∃S1,Dc H' M.sb S1/\SI S1/\Chg M.S S1/\FrN M.sb M.S (Ab H M.mb (.st Da m')) H',⟨_,rfl,rfl,Nat.zero_le _,M.S,h1.st,hI.si,Chg.refl,FrN.refl⟩,?_⟩;rintro n ⟨ys,k,_⟩ H1 ⟨e0,hn0,hk0,S1,s1,i1,c1,f2⟩;have e0:ys=l:=e0;subst e0;have hnk:n=ys.length-k:=hn0;have hk:k<=ys.length:=hk0;clear hn0 hk0;refine⟨λhkl _=>?_,λ_=>fin s1 i1 c1 f2⟩;have hkl':k<ys.length:=hkl;have ob1:=(h1.Adb s1 f2).ob;refine⟨hkl',hkl',_,ob1,rfl,swap s1 i1 c1 f2 λe S2 H2 s2 i2 c2 f3=>⟨by show k+1<=_;omega,ys.length-(k+1),by omega,rfl,rfl,by show k+1<=_;omega,S2,s2,i2,c2,f3⟩⟩
def Yu(M M':Mn)(Fs:List B.Fn):Prop:=∀R:List B.Fn,(∀F∈Fs,F∈R)->B.Aat M.S.n M.lv M.T R->B.Aat M'.S.n M'.lv M'.T R
variable {M':Mn} {Fs:List B.Fn}
theorem R3.l{F:B.Fn}(h:R3 M M' F)(hF:F∈Fs):Yu M M' Fs:=λR hR hc=>h R (hR F hF) hc
theorem Yu.refl:Yu M M Fs:=λ_ _ h=>h
theorem Yu.trans{M'':Mn}(h:Yu M M' Fs)(k:Yu M' M'' Fs):Yu M M'' Fs:=λR hR hc=>k R hR (h R hR hc)
def OpS(b:Nat)(M:Mn)(Fs:List B.Fn)(J:HP)(P:Mn->HP)(op:FT Y0 [.ptr] []):Prop:=∀M' H' c(X':PX)(Q':Unit->HP),CxH H' c b M'->MI M'->MV M'->Kp M M'->J H'->(∀M'' H'' l,CxH H'' c b M''->Stp M' M''->Yu M' M'' Fs->J H''->Aje M' M'' l->X' 231 l H'')->(∀M'' H'',CxH H'' c b M''->Stp M' M''->Yu M' M'' Fs->J H''->M''.ws=M'.ws->P M'' H''->Q' () H'')->op (some c,()) H' Q' X'
theorem FrH.of_same{H':HY}(f:FrH b M' H H')(e:F8 M M'):FrH b M H H':=λc a0 a1 a2 a3 a4 a5 a6=>f c a0 a1 (by rw[e.mb];exact a2) (by rw[e.sb];exact a3) (by rw[e.bl];exact a4) (by rw[e.bp];exact a5) (by rw[e.tb];exact a6)
theorem FrH.new{c:Nat}{o:Ob Y0}(h:H c=none):FrH b M H (Ab H c o):=λd a0 _ _ _ _ _ _=>Ad _ _ λe=>a0 (by rw[e];exact h)
theorem Agv{J:HP}{P:Mn->HP}{op:FT Y0 [.ptr] []}{Q:Int×Unit->UU}(hM:MG H b M)(hn:M.nx<576460752303423488)(hl:M.hs.length<=60000)(hF:Fs.length<=1000)(hR:∀F∈Fs,B.RD M.S.n F)(hJ:∀H H',J H->FrH b M H H'->J H')(h0:J H)(hop:OpS b M Fs J P op)(hq:∀M' H',MG H' b M'->Kp M M'->M'.ws.length<=M.ws.length->J H'->P M' H'->Q (0,()) () H'):Wp Y0 Q3 Nr (some b,op,()) H Q X:=by
 refine Amj _ _ _ _ _ ?_;unfold Aco;refine⟨λn z H'=>∃M',n=2*M'.ws.length+(if z.1=true then 0 else 1)/\MG H' b M'/\Kp M M'/\J H'/\(z.1=true->B.Aat M'.S.n M'.lv M'.T M'.fs),⟨_,M,rfl,hM,Kp.refl,h0,λh=>by cases h⟩,?_⟩;rintro n ⟨room,_⟩ H1 ⟨M1,hn1,g1,k1,j1,cv1⟩;have hn1:n=2*M1.ws.length+(if room=true then 0 else 1):=hn1;have cv1:room=true->B.Aat M1.S.n M1.lv M1.T M1.fs:=cv1;refine Aqp λc hc=>?_;have f1:FrH b M1 H1 (Ab H1 c (Ob.st (Y:=Y0) Gr (⟨some b⟩:Fk))):=FrH.new hc;have cx:CxH (Ab H1 c (Ob.st (Y:=Y0) Gr (⟨some b⟩:Fk))) c b M1:=⟨Aj _ _ _,g1.h.old λd hd=>Ad _ _ λe=>hd (by rw[e];exact hc)⟩
 have mg:∀{M2 H2},MnH H2 b M2->Stp M1 M2->(M2.ws=M1.ws∨∃ev,M1.ws=ev::M2.ws)->MG H2 b M2/\Kp M1 M2:=λ{M2 H2}h2 st hw=>by
  obtain⟨a1,a2⟩:=st.kp g1.i (by rcases hw with e|⟨ev,e⟩<;>simp [e]);refine⟨⟨h2,a1,st.mv,λev he=>g1.e ev ?_,by rw[a2.n];exact g1.n8,by rw[a2.room];exact g1.rm⟩,a2⟩;rcases hw with e|⟨ev',e⟩
  .rw[<-e];exact he
  .rw[e];exact List.mem_cons_of_mem _ he
 refine hop M1 _ c _ _ cx g1.i g1.v k1 (hJ _ _ j1 (f1.of_same k1.bs)) (λM2 H2 l c2 st cov j2 hp=>?_) λM2 H2 c2 st cov j2 hw hP=>⟨λ_=>?_,λh=>absurd rfl h⟩
 .rcases hp with ⟨rfl,hw,hm⟩|⟨ev,rfl,hw⟩
  .refine⟨_,rfl,rfl,λh=>(by cases h),λ_=>⟨λh=>(by cases h),λ_=>⟨λ_=>⟨λhr=>?_,λhr=>?_⟩,λh=>absurd rfl h⟩⟩⟩
   .obtain⟨g2,k2⟩:=mg c2.man st (.inl hw);refine Agx g2.h g2.i g2.v.me λM3 H3 k h3 i3 v3 kp3 w3 lv3 f3=>⟨2*M3.ws.length+0,?_,M3,rfl,⟨h3,i3,v3,λev he=>g2.e ev (by rw[<-w3];exact he),by rw[kp3.n];exact g2.n8,by rw[kp3.room];exact g2.rm⟩,(k1.trans k2).trans kp3,hJ _ _ j2 (f3.of_same (k1.trans k2).bs),λ_=>i3.A6i lv3⟩
    have hr:¬room=true:=hr;rw[w3,hw,hn1,if_neg hr];omega
   .exfalso;have hr:room=true:=Classical.not_not.1 hr;obtain⟨g2,k2⟩:=mg c2.man st (.inl hw);have hcov:=cov (Fs++M1.fs) (λF hF=>List.mem_append_left _ hF) ((cv1 hr).mono λf hf=>List.mem_append_right _ hf);have:=A0q g2.i.si g2.n8 (R:=Fs++M1.fs) (λf hf=>by
     rw[k2.n];rcases List.mem_append.1 hf with hf|hf
     .rw[k1.n];exact hR f hf
     .exact g1.i.A8o f hf) hcov
    rw[hm,g2.rm,List.length_append]at this;have hfs:M1.fs.length=M.hs.length:=by unfold Mn.fs;rw[List.length_map,k1.hs]
    rw[hfs]at this;omega
  .obtain⟨g2,k2⟩:=mg c2.man st (.inr ⟨ev,hw⟩);refine⟨_,rfl,rfl,λh=>(by cases h),λ_=>⟨λ_=>?_,λh=>absurd rfl h⟩⟩;refine Ais g2.h g2.i g2.v.me (by rw[(k1.trans k2).nx];exact hn) (g1.e ev (by rw[hw];exact List.mem_cons_self)) λM3 H3 h3 i3 v3 kp3 w3 f3=>⟨2*M3.ws.length+1,?_,M3,rfl,⟨h3,i3,v3,λev he=>g2.e ev (by rw[<-w3];exact he),by rw[kp3.n];exact g2.n8,by rw[kp3.room];exact g2.rm⟩,(k1.trans k2).trans kp3,hJ _ _ j2 (f3.of_same (k1.trans k2).bs),λh=>by cases h⟩
   rw[w3,hn1,hw,List.length_cons];omega
 .obtain⟨g2,k2⟩:=mg c2.man st (.inl hw);exact hq M2 H2 g2 (k1.trans k2) (k1.trans k2).ws j2 hP
end
section
set_option maxRecDepth 100000
set_option maxHeartbeats 2000000
theorem mpF{p:Prop}(h:p)(F:Prop)(e:p=F):F:=Eq.mp e h
def Agh(x:Option Nat)(p1:Int)(p2:Option Nat×Int×Int×Unit->HY->(Int×Unit->HP)->PX->Prop)(p3 p4:Int)(p5:Option Nat)(H:HY)(Q:Unit->UU)(X:PX):Prop:=Wp Y0 Jx Hr (x,p1,()) H (λ(b:Int×Unit)_ G=>Wp Y0 Jx Hr (x,p3,()) G (λ(b1:Int×Unit)_ G=>p2 (x,b.1,b1.1,()) G (λ(b:Int×Unit)(G:HY)=>∃(b2:Nat),p5=some b2/\∃(x1:Bool),G b2=some (Ob.st W0 x1)/\Q () () (Ab G b2 (Ob.st W0 (decide (b.1=p4))))) X) X) X
theorem Aqk x p1 p2 p3 p4 p5 H Q X(hyp_:Agh x p1 p2 p3 p4 p5 H Q X):Wp Y0 Ahf Zw (x,p1,p2,p3,p4,p5,()) H Q X:=wF Tryz.f150 {} (by kernel_rfl) hyp_ (by kernel_rfl)
def Abl(x:Option Nat)(p1:Int)(p2:List Int)(p3:Option Nat×Int×Int×Unit->HY->(Int×Unit->HP)->PX->Prop)(H:HY)(Q:Int×Unit->UU)(X:PX):Prop:=p2.length<=9223372036854775807->∃(V:Nat->Int×Nat×Unit->HP),(∃(n:Nat),V n (p1,0,()) H)/\∀(n:Nat)(x1:Int×Nat×Unit)(H:HY),V n x1 H->(x1.2.1<p2.length->x1.2.1<=9223372036854775807->∃(h:x1.2.1<p2.length),Wp Y0 Jx Hr (x,p2[x1.2.1],()) H (λ(b:Int×Unit)_ G=>p3 (x,x1.1,b.1,()) G (λ(b:Int×Unit)(G:HY)=>x1.2.1+1<=9223372036854775807/\∃(m:Nat),m<n/\V m (b.1,x1.2.1+1,()) G) X) X)/\(¬x1.2.1<p2.length->Q (x1.1,()) () H)
theorem Alr x p1 p2 p3 H Q X(hyp_:Abl x p1 p2 p3 H Q X):Wp Y0 Acg Us (x,p1,p2,p3,()) H Q X:=wF Tryz.f146 {lp:=[(3,⟨[(6,.one (.dat I6)),(12,.nat)],[0,3,10,11],true⟩)]} (by kernel_rfl) hyp_ (by kernel_rfl)
def Axc(x:Option Nat)(a b:Int)(H:HY)(Q:Int×Unit->UU)(X:PX):Prop:=Wp Y0 Ec Dv (x,a,0,b,()) H (λ(b:Int×Unit)_ G=>Q (b.1,()) () G) X
theorem Axb x a b H Q X(hyp_:Axc x a b H Q X):Wp Y0 Ahe Abb (x,a,b,()) H Q X:=wF Tryz.f77 {} (by kernel_rfl) hyp_ (by kernel_rfl)
def An2(m:Option Nat)(f:Option Nat×Int×Int×Unit->HY->(Int×Unit->HP)->PX->Prop)(a b want:Int)(H:HY)(Q:Bool×Int×Unit->UU)(X:PX):Prop:=∀(b1:Nat),H b1=none->Wp Y0 Za Sz (m,λ(a2:Option Nat×Unit)(H:HY)(Q:Unit->HP)(X:Nat->Lf Y0.D->HP)=>Wp Y0 Ahf Zw (a2.1,a,f,b,want,some b1,()) H (λ(b x:Unit)(G:HY)=>Q () G) X,()) (Ab H b1 (Ob.st W0 false)) (λ(b:Int×Unit)_ G=>∃(x:Bool),G b1=some (Ob.st W0 x)/\(x=true->x=x/\Q (decide (b.1=(0:Int)),b.1,()) () G)/\(¬x=true->x=x/\Q (false,b.1,()) () G)) X
theorem Axd m f a b want H Q X(hyp_:An2 m f a b want H Q X):Wp Y0 Ahg Abc (m,f,a,b,want,()) H Q X:=wF Tryz.f76 {pr:=[(12,9)],im:=[6,7,8,9]} (by kernel_rfl) hyp_ (by kernel_rfl)
def Aup(x:Option Nat)(a b:Int)(H:HY)(Q:Int×Unit->UU)(X:PX):Prop:=Wp Y0 Ec Dv (x,a,b,1,()) H (λ(b:Int×Unit)_ G=>Q (b.1,()) () G) X
theorem Auo x a b H Q X(hyp_:Aup x a b H Q X):Wp Y0 X7 Tv (x,a,b,()) H Q X:=wF Tryz.f74 {} (by kernel_rfl) hyp_ (by kernel_rfl)
def Agi(m:Option Nat)(first:Int)(f:Option Nat×Int×Int×Unit->HY->(Int×Unit->HP)->PX->Prop)(l:List Int)(H:HY)(Q:Int×Int×Unit->UU)(X:PX):Prop:=Wp Y0 Sj P3 (m,λ(a:Option Nat×Unit)(H:HY)(Q:Int×Unit->HP)(X:Nat->Lf Y0.D->HP)=>Wp Y0 Acg Us (a.1,first,l,f,()) H (λ(b:Int×Unit)(x:Unit)(G:HY)=>Q (b.1,()) G) X,()) H (λ(b:Int×Int×Unit)_ G=>Q (b.1,b.2.1,()) () G) X
theorem Aql m first f l H Q X(hyp_:Agi m first f l H Q X):Wp Y0 U1 Rb (m,first,f,l,()) H Q X:=wF Tryz.f73 {im:=[5,6,7]} (by kernel_rfl) hyp_ (by kernel_rfl)
def Axf(m:Option Nat)(l:List Int)(H:HY)(Q:Int×Int×Unit->UU)(X:PX):Prop:=Wp Y0 U1 Rb (m,1,λ(a:Option Nat×Int×Int×Unit)(H:HY)(Q:Int×Unit->HP)(X:Nat->Lf Y0.D->HP)=>Wp Y0 Ahe Abb (a.1,a.2.1,a.2.2.1,()) H (λ(b:Int×Unit)(x:Unit)(G:HY)=>Q (b.1,()) G) X,l,()) H (λ(b:Int×Int×Unit)_ G=>Q (b.1,b.2.1,()) () G) X
theorem Axe m l H Q X(hyp_:Axf m l H Q X):Wp Y0 Rs P0 (m,l,()) H Q X:=wF Tryz.f28 {} (by kernel_rfl) hyp_ (by kernel_rfl)
def Aec(m:Option Nat)(f g:Int)(H:HY)(Q:Bool×Int×Unit->UU)(X:PX):Prop:=Wp Y0 Ahg Abc (m,λ(a:Option Nat×Int×Int×Unit)(H:HY)(Q:Int×Unit->HP)(X:Nat->Lf Y0.D->HP)=>Wp Y0 X7 Tv (a.1,a.2.1,a.2.2.1,()) H (λ(b:Int×Unit)(x:Unit)(G:HY)=>Q (b.1,()) G) X,f,g,1,()) H (λ(b:Bool×Int×Unit)_ G=>(¬b.1=true->Q (decide (b.2.1=(0:Int)),b.2.1,()) () G)/\(¬¬b.1=true->Q (false,b.2.1,()) () G)) X
theorem An3 m f g H Q X(hyp_:Aec m f g H Q X):Wp Y0 Si P1 (m,f,g,()) H Q X:=wF Tryz.f27 {} (by kernel_rfl) hyp_ (by kernel_rfl)
def Aus(m:Option Nat)(l:List Int)(H:HY)(Q:Int×Int×Unit->UU)(X:PX):Prop:=Wp Y0 U1 Rb (m,0,λ(a:Option Nat×Int×Int×Unit)(H:HY)(Q:Int×Unit->HP)(X:Nat->Lf Y0.D->HP)=>Wp Y0 X7 Tv (a.1,a.2.1,a.2.2.1,()) H (λ(b:Int×Unit)(x:Unit)(G:HY)=>Q (b.1,()) G) X,l,()) H (λ(b:Int×Int×Unit)_ G=>Q (b.1,b.2.1,()) () G) X
theorem Aur m l H Q X(hyp_:Aus m l H Q X):Wp Y0 D6 Du (m,l,()) H Q X:=wF Tryz.f25 {} (by kernel_rfl) hyp_ (by kernel_rfl)
end
section
variable {M:Mn}
theorem MHs.mv{M':Mn}(h:MHs M M')(v:MV M):MV M':=by
 refine⟨by rw[h.me];exact v.me,λe he hf ho=>?_⟩;rw[h.me]at he;have k:=v.en e he hf ho;have n:M'.S.n=M.S.n:=by unfold Sto.n;rw[h.bs.tb]
 have t:M'.T=M.T:=h.tbl;have l:M'.lv=M.lv:=by show lvA _=lvA _;rw[h.lv]
 exact⟨by rw[t];exact k.of,by rw[t];exact k.og,by rw[t];exact k.oh,by rw[t];exact k.or,by rw[t];exact k.den,by rw[n,l,t];exact k.lev⟩
variable {H H':HY} {b:Nat}
theorem MHs.mg{M':Mn}(h:MHs M M')(g:MG H b M)(h':MnH H' b M')(i':MI M'):MG H' b M':=
 ⟨h',i',h.mv g.v,by rw[h.ws];exact g.e,by rw[show M'.S.n=M.S.n by unfold Sto.n;rw[h.bs.tb]];exact g.n8,by rw[h.room];exact g.rm⟩
theorem MG.old(h:MG H b M)(f:∀c,H c≠none->H' c=H c):MG H' b M:=⟨h.h.old f,h.i,h.v,h.e,h.n8,h.rm⟩
structure New(M M':Mn)(F:B.Fn):Prop where
 bs:F8 M M'
 nx:M'.nx=M.nx+1
 ln:M'.hs.length=M.hs.length+1
 Ba:∀g,M'.Ba g=if g=M.nx then some F else M.Ba g
structure K0(b:Nat)(M:Mn)(c:Nat):Prop where
 b:c≠b
 mb:c≠M.mb
 sb:c≠M.sb
 bl:c≠M.S.bl
 bp:c≠M.S.bp
 tb:c∉M.S.tb
variable {c:Nat}
theorem MnH.notM(h:MnH H b M)(hc:H c=none):K0 b M c:=by
 have ne:∀{d:Nat}{o:Ob Y0},H d=some o->c≠d:=λhd e=>by rw[e,hd]at hc;cases hc
 refine⟨ne h.ob,ne h.me,ne h.st.st,ne h.st.lv,ne h.st.po,λhm=>?_⟩;obtain⟨v,hv,e⟩:=List.mem_iff_getElem.1 hm;exact ne (h.st.ta v hv) e.symm
theorem K0.same{b c:Nat}{M M':Mn}(h:K0 b M c)(e:F8 M M'):K0 b M' c:=⟨h.b,by rw[e.mb];exact h.mb,by rw[e.sb];exact h.sb,by rw[e.bl];exact h.bl,by rw[e.bp];exact h.bp,by rw[e.tb];exact h.tb⟩
theorem FrM.at(f:FrM b M H H')(h:K0 b M c):H' c=H c:=f c h.b h.mb h.sb h.bl h.bp h.tb
theorem FrH.at(f:FrH b M H H')(hc:H c≠none)(h:K0 b M c):H' c=H c:=f c hc h.b h.mb h.sb h.bl h.bp h.tb
theorem FrM.same{b:Nat}{M M':Mn}{H H':HY}(f:FrM b M' H H')(e:F8 M M'):FrM b M H H':=λc a1 a2 a3 a4 a5 a6=>f c a1 (by rw[e.mb];exact a2) (by rw[e.sb];exact a3) (by rw[e.bl];exact a4) (by rw[e.bp];exact a5) (by rw[e.tb];exact a6)
theorem MnH.other{m:Nat}{x:Y0.O m}{y:Ob Y0}(h:MnH H b M)(hc:K0 b M c)(_:H c=some (.st m x)):MnH (Ab H c y) b M:=by
 refine⟨?_,⟨?_,?_,?_,h.st.nd,λv hv=>?_⟩,?_⟩
 .rw[Ad _ _ hc.b.symm];exact h.ob
 .rw[Ad _ _ hc.sb.symm];exact h.st.st
 .rw[Ad _ _ hc.bl.symm];exact h.st.lv
 .rw[Ad _ _ hc.bp.symm];exact h.st.po
 .rw[Ad _ _ λe=>hc.tb (by rw[<-e];exact List.getElem_mem hv)];exact h.st.ta v hv
 .rw[Ad _ _ hc.mb.symm];exact h.me
def OpE(b:Nat)(M:Mn)(H:HY)(Fs:List B.Fn)(F:B.Fn)(op:FT Y0 [.ptr] [.int .i64]):Prop:=∀M' H' c(X':PX)(Q':Int×Unit->HP),CxH H' c b M'->MI M'->MV M'->Kp M M'->FrH b M H H'->(∀M'' H'' l,CxH H'' c b M''->Stp M' M''->Yu M' M'' Fs->FrM b M' H' H''->Aje M' M'' l->X' 231 l H'')->(∀e M'' H'',CxH H'' c b M''->Stp M' M''->Yu M' M'' Fs->FrM b M' H' H''->M''.ws=M'.ws->B.Ok M''.T e->B.den M''.T e=F->Q' (e,()) H'')->op (some c,()) H' Q' X'
variable {F:B.Fn}
theorem Aj4{Fs:List B.Fn}{op:FT Y0 [.ptr] [.int .i64]}{X:PX}{Q:Int×Int×Unit->UU}(hM:MG H b M)(hn:M.nx<576460752303423487)(hl:M.hs.length<=60000)(hF:Fs.length<=1000)(hR:∀F∈Fs,B.RD M.S.n F)(hop:OpE b M H Fs F op)(hq:∀M' H',MG H' b M'->New M M' F->FrH b M H H'->Q (M.nx,0,()) () H'):Wp Y0 Sj P3 (some b,op,()) H Q X:=by
 refine Apb _ _ _ _ _ ?_;unfold Aek;refine⟨λh=>absurd h (by simp),λ_ c0 hc0=>?_⟩;have n0:=hM.h.notM hc0;have old0:∀d,H d≠none->Ab H c0 (Ob.st Dk (0:Int)) d=H d:=λd hd=>Ad _ _ λe=>hd (by rw[e];exact hc0);refine Agv (M:=M) (Fs:=Fs) (J:=λH'=>(∃x:Int,H' c0=some (.st Dk x))/\FrH b M H H') (P:=λM' H'=>∃e:Int,H' c0=some (.st Dk e)/\B.Ok M'.T e/\B.den M'.T e=F) (hM.old old0) (by omega) hl hF hR (λH1 H2⟨⟨x,hx⟩,fr⟩f=>⟨⟨x,by rw[f.at (by rw[hx];simp) n0];exact hx⟩,fr.trans f .refl⟩) ⟨⟨0,Aj _ _ _⟩,FrH.new hc0⟩ ?_ ?_
 .intro M' H' c X' Q' cx iI iV kp ⟨⟨x,hx⟩,fr⟩ hpan hfin;refine Ai3 _ _ _ _ _ _ ?_;unfold Zk;have j:∀{H''},FrM b M' H' H''->(∃x:Int,H'' c0=some (.st Dk x))/\FrH b M H H'':=λ{H''}f=>⟨⟨x,by rw[(f.same kp.bs).at n0];exact hx⟩,fr.trans (f.same kp.bs).h .refl⟩
  refine hop M' H' c _ _ cx iI iV kp fr (λM'' H'' l c2 st cov f hp=>hpan M'' H'' l c2 st cov (j f) hp) λe M'' H'' c2 st cov f hw ho hd=>?_;obtain⟨⟨x2,hx2⟩,f2⟩:=j f;have n2:=(n0.same kp.bs).same st.bs;refine⟨c0,rfl,x2,hx2,hfin M'' _ ⟨?_,c2.man.other n2 hx2⟩ st cov ⟨⟨_,Aj _ _ _⟩,λd a0 a1 a2 a3 a4 a5 a6=>?_⟩ hw ⟨e,Aj _ _ _,ho,hd⟩⟩
  .rw[Ad _ _ (By c2.cx hx2 (by decide))];exact c2.cx
  .rw[Ad _ _ (λe=>a0 (by rw[e];exact hc0))];exact f2 d a0 a1 a2 a3 a4 a5 a6
 .intro M' H' g kp hw ⟨_,fr⟩ ⟨e,he,ho,hd⟩;refine⟨λh=>absurd rfl h,λ_=>⟨b,rfl,M'.ob,g.h.ob,rfl,e,he,rfl,?_⟩⟩;refine Pz g.h.st g.i.si.sc.po λt ht=>⟨λh=>absurd (ht.2 ho) h,λ_=>⟨e,he,rfl,?_⟩⟩
  refine Aee g.h g.i (by rw[kp.nx];omega) ho λM2 H2 h2 i2 ms nx ln Ba f2=>?_;rw[kp.nx];refine hq M2 H2 (ms.mg g h2 i2) ⟨kp.bs.trans ms.bs,nx.trans (by rw[kp.nx]),ln.trans (by rw[kp.hs]),λk=>?_⟩ (fr.trans f2.h kp.bs);rw[Ba,kp.nx,kp.Ba];show (if k=M.nx then some (B.den M'.T e) else _)=_;rw[hd]
def Azv(b:Nat)(T:B.Fn->B.Fn->B.Fn)(f:FT Y0 [.ptr,.int .i64,.int .i64] [.int .i64]):Prop:=∀M' H' c e1 e2(X':PX)(Q':Int×Unit->HP),CxH H' c b M'->SI M'.S->MV M'->B.Ok M'.T e1->B.Ok M'.T e2->(∀M'' H'' l,CxH H'' c b M''->Stp M' M''->R3 M' M'' (T (B.den M'.T e1) (B.den M'.T e2))->FrM b M' H' H''->Aje M' M'' l->X' 231 l H'')->(∀e M'' H'',CxH H'' c b M''->Stp M' M''->R3 M' M'' (T (B.den M'.T e1) (B.den M'.T e2))->FrM b M' H' H''->M''.ws=M'.ws->B.Ok M''.T e->B.den M''.T e=T (B.den M'.T e1) (B.den M'.T e2)->Q' (e,()) H'')->f (some c,e1,e2,()) H' Q' X'
theorem Xh{g:Int}{X:PX}{Q:Int×Unit->UU}(hC:CxH H c b M)(hI:MI M)(hF:M.Ba g=some F)(h:∀e,B.Ok M.T e->B.den M.T e=F->Q (e,()) () H):Wp Y0 Jx Hr (some c,g,()) H Q X:=by obtain⟨e,he,hd⟩:=Mn.Ju hF;refine Aq5 hC (λh0=>by rw[h0]at he;cases he) λe' he'=>?_;rw[he]at he';cases he';exact h e (hI.ok g e he).1 hd
theorem Aws{n:Int}{T:B.Fn->B.Fn->B.Fn}(hT:∀F G a b,(F a=F b)->(G a=G b)->T F G a=T F G b){G:B.Fn}(h1:B.RD n F)(h2:B.RD n G):B.RD n (T F G):=λa b hab=>hT F G a b (h1 a b hab) (h2 a b hab)
theorem MG.rd(h:MG H b M){g:Int}(hF:M.Ba g=some F):B.RD M.S.n F:=by obtain⟨e,he,rfl⟩:=Mn.Ju hF;exact h.i.si.C6.rd (h.i.ok g e he).1
end
section
def Hw(F G:B.Fn):B.Fn:=λa=>F a&&G a
def orF(F G:B.Fn):B.Fn:=λa=>F a ||G a
variable {b:Nat}
theorem Afx{T:B.Fn->B.Fn->B.Fn}{f:FT Y0 [.ptr,.int .i64,.int .i64] [.int .i64]}(g h:Int->Int)(hg:∀{N:B.Tb}{e:Int},B.Ok N e->B.Ok N (g e)/\B.Ok N (h e))(hT:∀{N:B.Tb}{e1 e2:Int},B.Ok N e1->B.Ok N e2->Gd (B.den N e1) (B.den N (g e2)) (B.den N (h e2))=T (B.den N e1) (B.den N e2))(hf:∀c e1 e2 H X(Q:Int×Unit->HP),Wp Y0 Ec Dv (c,e1,g e2,h e2,()) H (λb _ H'=>Q (b.1,()) H') X->f (c,e1,e2,()) H Q X):Azv b T f:=by intro M' H' c e1 e2 X' Q' cx hI hV o1 o2 hpan hfin;refine hf (some c) e1 e2 H' X' Q' ?_;have k:=hT o1 o2;exact Ave cx hI hV o1 (hg o2).1 (hg o2).2 (λM'' H'' l c2 st cov f hp=>hpan M'' H'' l c2 st (by rw[<-k];exact cov) f hp) λe M'' H'' c2 st cov f hw ho hd=>hfin e M'' H'' c2 st (by rw[<-k];exact cov) f hw ho (by rw[hd];exact k)
theorem Atq:Azv b Hw (λa H Q X=>Wp Y0 X7 Tv (a.1,a.2.1,a.2.2.1,()) H (λb _ H'=>Q (b.1,()) H') X):=
 Afx (λe=>e) (λ_=>1) (λh=>⟨h,B.ok_one⟩) (λ_ _=>by funext a;rw[B.Jo];simp only[Gd,Hw];cases B.den _ _ a<;>simp) λc e1 e2 H X Q h=>Auo _ _ _ _ _ _ h
theorem A4l:Azv b orF (λa H Q X=>Wp Y0 Ahe Abb (a.1,a.2.1,a.2.2.1,()) H (λb _ H'=>Q (b.1,()) H') X):=
 Afx (λ_=>0) (λe=>e) (λh=>⟨B.Aff,h⟩) (λ_ _=>by funext a;rw[B.Pq];simp only[Gd,orF];cases B.den _ _ a<;>simp) λc e1 e2 H X Q h=>Axb _ _ _ _ _ _ h
def Ahc(T:B.Fn->B.Fn->B.Fn):B.Fn->List B.Fn->List B.Fn
 |_,[]=>[]
 |F,G::l=>T F G::Ahc T (T F G) l
theorem Akh{T:B.Fn->B.Fn->B.Fn}:∀{l:List B.Fn}{F:B.Fn},(Ahc T F l).length=l.length
 | [],_=>rfl
 |_::l,_=>by simp [Ahc,Akh (l:=l)]
theorem Aox{T:B.Fn->B.Fn->B.Fn}:∀{l:List B.Fn}{F:B.Fn}{k:Nat}(h:k<l.length),T ((l.take k).foldl T F) l[k]∈Ahc T F l
 |G::l,F,0,_=>List.mem_cons_self
 |G::l,F,k+1,h=>List.mem_cons_of_mem _ (by simpa using Aox (l:=l) (F:=T F G) (k:=k) (by simpa using h))
theorem Aow{n:Int}{T:B.Fn->B.Fn->B.Fn}(hT:∀F G a b,(F a=F b)->(G a=G b)->T F G a=T F G b):∀{l:List B.Fn}{F:B.Fn},B.RD n F->(∀G∈l,B.RD n G)->∀K∈Ahc T F l,B.RD n K
 | [],_,_,_,_,h=>absurd h List.not_mem_nil
 |G::l,F,h1,h2,K,h=>by
  have h3:=Aws hT h1 (h2 G List.mem_cons_self);rcases List.mem_cons.1 h with rfl|h
  .exact h3
  .exact Aow hT h3 (λG' hG=>h2 G' (List.mem_cons_of_mem _ hG)) K h
variable {M:Mn} {l:List Int} {Gs:List B.Fn} {H:HY} {X:PX} {Q:Int×Int×Unit->UU}
theorem Aeb{T:B.Fn->B.Fn->B.Fn}{f:FT Y0 [.ptr,.int .i64,.int .i64] [.int .i64]}{e0:Int}{F0:B.Fn}(hM:MG H b M)(hn:M.nx<576460752303423487)(hl:M.hs.length<=60000)(hT:∀F G a b,(F a=F b)->(G a=G b)->T F G a=T F G b)(hf:Azv b T f)(he0:∀N:B.Tb,B.Ok N e0/\B.den N e0=F0)(hlen:l.length<=1000)(hG:l.map M.Ba=Gs.map some)(hq:∀M' H',MG H' b M'->New M M' (Gs.foldl T F0)->FrH b M H H'->Q (M.nx,0,()) () H'):Wp Y0 U1 Rb (some b,e0,f,l,()) H Q X:=by
 refine Aql _ _ _ _ _ _ _ ?_;unfold Agi;have hgl:Gs.length=l.length:=by have:=congrArg List.length hG;simpa using this.symm
 have hgk:∀k(h:k<l.length)(h':k<Gs.length),M.Ba l[k]=some Gs[k]:=λk h h'=>by
  have h1:(l.map M.Ba)[k]?=(Gs.map some)[k]?:=by rw[hG]
  rw[List.getElem?_map,List.getElem?_map,List.getElem?_eq_getElem h,List.getElem?_eq_getElem h']at h1;simpa using h1
 have hF0:B.RD M.S.n F0:=by rw[<-(he0 M.T).2];exact hM.i.si.C6.rd (he0 M.T).1
 refine Aj4 (Fs:=Ahc T F0 Gs) (F:=Gs.foldl T F0) hM hn hl (by rw[Akh];omega) (Aow hT hF0 λG hG'=>?_) ?_ λM' H' g' nw fr=>hq M' H' g' nw fr
 .obtain⟨k,hk,rfl⟩:=List.mem_iff_getElem.1 hG';exact hM.rd (hgk k (by omega) hk)
 .intro M' H' c X' Q' cx iI iV kp fr hpan hfin;refine Alr _ _ _ _ _ _ _ ?_;unfold Abl;intro _;refine⟨λn z H2=>n=l.length-z.2.1/\z.2.1<=l.length/\∃M2,CxH H2 c b M2/\Stp M' M2/\Yu M' M2 (Ahc T F0 Gs)/\FrM b M' H' H2/\M2.ws=M'.ws/\B.Ok M2.T z.1/\B.den M2.T z.1=(Gs.take z.2.1).foldl T F0,⟨_,rfl,Nat.zero_le _,M',cx,Stp.refl iI.si iV,Yu.refl,FrM.refl,rfl,(he0 _).1,(he0 _).2⟩,?_⟩;rintro n ⟨e,k,_⟩ H2 ⟨hn0,hk0,M2,cx2,st2,cov2,f2,w2,o2,d2⟩;have hnk:n=l.length-k:=hn0;have hk:k<=l.length:=hk0;replace o2:B.Ok M2.T e:=o2;replace d2:B.den M2.T e=(Gs.take k).foldl T F0:=d2;clear hn0 hk0;obtain⟨i2,kp2⟩:=st2.kp iI (by rw[w2];exact Nat.le_refl _);refine⟨λhkl _=>?_,λhkl=>?_⟩
  .have hkl':k<l.length:=hkl;have hkg:k<Gs.length:=by omega
   have hmem:=Aox (T:=T) (F:=F0) hkg;refine⟨hkl',Xh cx2 i2 (by rw[kp2.Ba,kp.Ba];exact hgk k hkl' hkg) λe2 o3 d3=>?_⟩;refine hf M2 H2 c e e2 _ _ cx2 i2.si st2.mv o2 o3 (λM3 H3 l3 cx3 st3 cov3 f3 hp=>?_) λe3 M3 H3 cx3 st3 cov3 f3 w3 o4 d4=>⟨by show k+1<=_;omega,l.length-(k+1),by omega,rfl,by show k+1<=_;omega,M3,cx3,st2.trans st3,cov2.trans (cov3.l (by rw[d2,d3];exact hmem)),f2.trans f3 st2.bs,w3.trans w2,o4,?_⟩
   .exact hpan M3 H3 l3 cx3 (st2.trans st3) (cov2.trans (cov3.l (by rw[d2,d3];exact hmem))) (f2.trans f3 st2.bs) (hp.step w2)
   .show B.den M3.T e3=(Gs.take (k+1)).foldl T F0;rw[d4,d2,d3,List.take_succ_eq_append_getElem hkg,List.foldl_append];rfl
  .have hkl':¬k<l.length:=hkl;have:k=Gs.length:=by omega
   subst this;rw[List.take_length]at d2;exact hfin e M2 H2 cx2 st2 cov2 f2 w2 o2 d2
theorem Agj(hM:MG H b M)(hn:M.nx<576460752303423487)(hl:M.hs.length<=60000)(hlen:l.length<=1000)(hG:l.map M.Ba=Gs.map some)(hq:∀M' H',MG H' b M'->New M M' (Gs.foldl Hw (λ_=>true))->FrH b M H H'->Q (M.nx,0,()) () H'):Wp Y0 D6 Du (some b,l,()) H Q X:=by refine Aur _ _ _ _ _ (Aeb (T:=Hw) hM hn hl (λF G a b h1 h2=>by simp only[Hw,h1,h2]) Atq (λN=>⟨B.Aff,B.Pq⟩) hlen hG hq)
theorem Auq(hM:MG H b M)(hn:M.nx<576460752303423487)(hl:M.hs.length<=60000)(hlen:l.length<=1000)(hG:l.map M.Ba=Gs.map some)(hq:∀M' H',MG H' b M'->New M M' (Gs.foldl orF (λ_=>false))->FrH b M H H'->Q (M.nx,0,()) () H'):Wp Y0 Rs P0 (some b,l,()) H Q X:=by refine Axe _ _ _ _ _ (Aeb (T:=orF) hM hn hl (λF G a b h1 h2=>by simp only[orF,h1,h2]) A4l (λN=>⟨B.ok_one,B.Jo⟩) hlen hG hq)
end
end Go.Proofs.YtcbkbpjlbmalmaaGreatDoor
