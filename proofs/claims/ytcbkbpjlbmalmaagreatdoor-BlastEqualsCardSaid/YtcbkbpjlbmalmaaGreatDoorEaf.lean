/-
  pairs. (Merged by program out of 30 texts.)
-/
import Derived.Test.YtcbkbpjlbmalmaaGreatDoorEae
import Derived.Shelf.SortM.Plain
import Derived.Shelf.SortM.SortNone
import Derived.Shelf.SlLaysM
open Decidable renaming decide->ω
open List renaming getElem?_eq_getElem->a7,take_succ_eq_append_getElem->a8,mem_singleton->aa,perm_append_comm_assoc->ab,mem_append_left->ac,mem_append_right->ad,mem_iff_getElem->ae,map_append->ah,getElem_mem->ai,length_map->aj,mem_append->ak,mem_map->an,range->ao,map_cons->ar,getElem?_eq_none->au,getElem_inj->av,mem_cons->ay,mem_cons_of_mem->az,countP_eq_length_filter->ba,mem_map_of_mem->bb,mergeSort_perm->bc,length_append->bf,mem_take_iff_getElem->bg,getElem?_map->bi,nodup_range->bj,length_cons->bk,take_of_length_le->bn,mem_filter->bo,range_succ->br,nodup_cons->bt,Perm.append_left->bw,mem_range->bx,Perm.cons->c0,filter_eq_self->c7,mem_cons_self->c8,append_assoc->c9,pairwise_map->cd,foldl_append->ce,ext_getElem?->cf,Pairwise.map->cg,nodup_append->ci,take_length->cj,length_nil->cl,Perm.swap->cm,drop->co,take->cp,length->σ
open Nat renaming zero_le->ag,le_refl->aq,mul_le_mul_right->c6,le_trans->cb,not_lt_zero->ck,succ_mul->cr
open Classical renaming byContradiction->am,not_not->bh
open Option renaming isSome_iff_exists->ap,getD_some->aw,some->ν,none->δ
open Int renaming toNat->ax,le_refl->bz,le_trans->cq
open Array renaming getElem?_eq_some_iff->be,getElem?_modify->bv
open Bool renaming eq_iff_iff->bq,true->τ,false->ψ
namespace Go.Proofs.YtcbkbpjlbmalmaaGreatDoor
open Go Go.X Go.Y Go.RowKit
section
set_option maxRecDepth 100000
abbrev Zd:FN:={err:=(0:Int),event:=ψ,ev:={IB:=(0:Int),Kind:=(0:Int),Level:=(0:Int):BQ}}
variable {w:World}
theorem Z1{P:Program}{f:Fr}{t ty:TypeId}{a:Nat}{v:Value}{p:Addr}{pos:String}{af:Array Edge}{d:Option Tmp}(h:(execOp (ev f) ⟨d,.load t (.tmp a),ty,pos,af,δ⟩).run P w=.ok (.value v) w)(c:f a=.pointer (ν p)):(loadVar t p).run P w=.ok v w:=by
 simp  [execOp,Instr.loadAt,X.ev,c,Instr.sureAddr]at h;cases b:(loadVar t p).run P w with
 |ok u e=>rw[b]at h;simp   at h;rw[h.1,h.2]
 |halt x e=>rw[b]at h;simp  at h
theorem Ayf{ρ:Operand->Value}{x:Operand}{g:Fn}{cap:Array Value}{t:TypeId}{P:Program}{ats:Array TypeId}(h:ρ x=.func g #[] cap):(resolve ρ {callee:=.value x,args:=#[],argTypes:=ats} t).run P w=.ok ⟨.fn g cap,#[]⟩ w:=by simp [resolve,h,Deferred.ofValue]
theorem Aib{bs bd:Nat}{us:List Value}{b:Bool}{f:Fr}{row:Array Value}{es ed:TypeId}{I:Cb}{T:Bi}(h4:f 4=.pointer (ν ⟨bs,0,δ⟩))(h5:f 5=.pointer (ν ⟨bd,0,δ⟩))(hs:St I w ([(bs,.cells row es (0,0))]++([(bd,.cells #[.bool b] ed (0,0))]++T)))(hr:row.toList=us)(hl:σ us=5):∀a,Is 13 a f->(results Tryz.f227 a).run Y0.P w=.ok (.tuple #[.agg ⟨us⟩,.bool b]) w:=by
 intro a ha;have h231:Q5 Y0.P 231 τ 5=τ:=by kernel_rfl
 have e1:(loadVar 231 ⟨bs,0,δ⟩).run Y0.P w=.ok (.agg ⟨us⟩) w:=Z1 (f:=f) (a:=4) (Ja (ty:=0) (λpos af K hk=>Tq (n:=5) h231 hs (by exact h4) (vs:=us) (by rw[hr,<-hl];simp) hl hk) δ "" #[]) h4;have e2:(loadVar 4 ⟨bd,0,δ⟩).run Y0.P w=.ok (.bool b) w:=Z1 (f:=f) (a:=5) (Ja (ty:=0) (λpos af K hk=>Wd (by kernel_rfl) hs.Y2 (by exact h5) rfl hk) δ "" #[]) h5;have g4:a.getD 4 undef=.pointer (ν ⟨bs,0,δ⟩):=by rw[ha.2 4,h4]
 have g5:a.getD 5 undef=.pointer (ν ⟨bd,0,δ⟩):=by rw[ha.2 5,h5]
 have hR:Tryz.f227.results.toList=[.cell 4 231,.cell 5 4]:=rfl;refine Hf (vs:=[.agg ⟨us⟩,.bool b]) ?_;rw[hR];simp [List.mapM_cons,Rs,g4,g5,asAddr,e1,e2]
noncomputable def A53(X:PX):Env Y0:={N:=13,Pf:=Ss,sigs:=sg,pf:=pfT,X:=X,lp:=[],jn:=[],pr:=[(10,EM)],im:=[]}
theorem Ait{ops:Array Oper}{t:Nat}(h:ops.toList.all (λo=>o.dst != ν t)=τ):Amt ops t:=λi o a=>by have:=List.all_eq_true.1 h o (by rw[be]at a;obtain⟨c,b⟩:=a;rw[<-b];simp);simpa using this
def A2i(m:Option Nat)(op:FT Y0 [.ptr] [])(H:HY):Cf Y0:={fr:=[(0,.ptr 0 m),(1,.fn [.ptr] [] op)],sg:=[],nx:=1,H:=H,op:=δ,hs:=[],pt:=[4,5]}
theorem Agy{bm:Option Nat}{op:FT Y0 [.ptr] []}{H:HY}{Q:FN×Bool×Unit->UU}{X:PX}(h:∀b,H b=δ->op (ν b,()) (Ac H b (Ob.st (Y:=Y0) EM (⟨bm⟩:Hz))) (λ_ H'=>Q (Zd,τ,()) () H') (λt l H'=>∃st:FN,t=231/\l=⟨.u 15,st⟩/\Q (st,ψ,()) () H')):qK 227 Jt (bm,op,()) H Q X:=by
 intro I w T A AH vs hargs hH hst;have hlen:=Ab8 hargs;have hz:∃z,zrB Y0.P 231 z/\z.cells.size=5:=⟨.agg #[.int .i64 0,.bool ψ,.int .i64 0,.int .i64 0,.int .i64 0],by unfold zrB;kernel_rfl,rfl⟩
 obtain⟨z,hz1,hz2⟩:=hz;have hzb:zrB Y0.P 4 (.bool ψ):=by unfold zrB;kernel_rfl
 obtain⟨v0,vs0,e0,hr0,v1,vs1,e1,hr1,e2,e3⟩:=hargs;subst e3 e2 e1 e0;obtain⟨x1,s1⟩:=hst.alloc (.cells z.cells 231);obtain⟨x2,s2⟩:=s1.alloc (.cells (Value.bool ψ).cells 4);refine Sb (F:=Tryz.f227) (N:=13) (by kernel_rfl) rfl rfl rfl ?_;generalize hf0:YE [v0,v1]=f0;have f00:f0 0=v0:=by rw[<-hf0];rfl
 have f01:f0 1=v1:=by rw[<-hf0];rfl
 have fin:∀{I':Cb}{w':World}{AH':Bi}{H':HY}{st:FN}{b:Bool}{us:List Value},Ext I w I' w'->St I' w' (AH'++T)->Ip (Ra Y0) I' w' H' AH'->rp Y0.toUS (.u 15) I' w' (.agg ⟨us⟩) st->Q (st,b,()) () H'->
   (Aki I w (λv I' w'=>∃AH' A' H',St I' w' (AH'++(A'++T))/\Ip (Ra Y0) I' w' H' AH'/\∃b io us A1 A2,A'=A1++A2/\v=LD us/\ReR Y0 I' w' Jt.res b us A1/\IoR Y0 I' w' Jt.args io [v0,v1] A2/\Q b io H') (λv I' w'=>∃AH' H' t l u,St I' w' (AH'++T)/\Ip (Ra Y0) I' w' H' AH'/\v=.iface t u/\rp Y0.toUS l.t I' w' u l.x/\X t l H')) (.returned (.tuple #[.agg ⟨us⟩,.bool b])) w':=λ{I' w' AH' H' st b us}k1 k2 k3 k4 k5=>
  .inl ⟨_,I',rfl,k1,AH',[],H',k2,k3,(st,b,()),(),[.agg ⟨us⟩,.bool b],[],[],rfl,rfl,⟨_,_,rfl,k4,_,_,rfl,HQ.2 rfl,rfl,rfl⟩,rfl,k5⟩
 refine DE (CK (Ao (U4 hz1 _ _ _ _) (Ao (U4 hzb _ _ _ _) ?_)));have hsz:(w.alloc (.cells z.cells 231)).heap.size=w.heap.size+1:=by simp
 rw[hsz]at s2 ⊢;generalize w.heap.size=bs at s1 s2 ⊢;generalize hw2:(w.alloc (.cells z.cells 231)).alloc (.cells (Value.bool ψ).cells 4)=w2 at s2 x2 ⊢;generalize hf1:put 13 (put 13 f0 (ν 4) (.pointer (ν ⟨bs,0,δ⟩))) (ν 5) (.pointer (ν ⟨bs+1,0,δ⟩))=f1;have f10:f1 0=v0:=by rw[<-hf1,Bg (by decide),Bg (by decide),f00]
 have f11:f1 1=v1:=by rw[<-hf1,Bg (by decide),Bg (by decide),f01]
 have f14:f1 4=.pointer (ν ⟨bs,0,δ⟩):=by rw[<-hf1,Bg (by decide),Dw (by decide)]
 have f15:f1 5=.pointer (ν ⟨bs+1,0,δ⟩):=by rw[<-hf1,Dw (by decide)]
 refine DE (Acj (os:=[_]) rfl rfl (WZ rfl rfl ?_));refine⟨⟨.fn (.func 256) #[.pointer (ν ⟨bs+1,0,δ⟩),.pointer (ν ⟨bs,0,δ⟩)],#[]⟩,w2,?_,?_⟩
 .have h6:(put 13 f1 (ν 6) (.func (.func 256) #[] ⟨[f1 5,f1 4]⟩)) 6=.func (.func 256) #[] ⟨[f1 5,f1 4]⟩:=Dw (by decide);have h6':ev (put 13 f1 (ν 6) (.func (.func 256) #[] ⟨[f1 5,f1 4]⟩)) (.tmp 6)=.func (.func 256) #[] ⟨[f1 5,f1 4]⟩:=h6;have hv:ev (put 13 f1 (ν 6) (.func (.func 256) ⟨List.map (ev f1) (#[]:Array Operand).toList⟩ ⟨List.map (ev f1) (#[.tmp 5,.tmp 4]:Array Operand).toList⟩)) (.tmp 6)=.func (.func 256) #[] #[.pointer (ν ⟨bs+1,0,δ⟩),.pointer (ν ⟨bs,0,δ⟩)]:=h6'.trans (by rw[f15,f14]);exact Ayf hv
 generalize hf2:put 13 f1 (ν 6) _=f2;have f20:f2 0=v0:=by rw[<-hf2,Bg (by decide),f10]
 have f21:f2 1=v1:=by rw[<-hf2,Bg (by decide),f11]
 have f24:f2 4=.pointer (ν ⟨bs,0,δ⟩):=by rw[<-hf2,Bg (by decide),f14]
 have f25:f2 5=.pointer (ν ⟨bs+1,0,δ⟩):=by rw[<-hf2,Bg (by decide),f15]
 have x12:=x1.trans x2;let gi:B3:={I:=I,w:=w,n:=0,μ:=λ_=>undef,φ:=YE [v0,v1]}
 let g:B3:={I:=I,w:=w2,n:=1,μ:=λ_=>v0,φ:=f2}
 have hr:RG gi ((bs+1,.cells (Value.bool ψ).cells 4 (0,0))::(bs,.cells z.cells 231 (0,0))::T) (A2i bm op H) f2 g AH []:=by
  refine⟨rfl,x12,?_,?_,rfl,λx hx=>(by cases hx),λt ht=>rfl,?_⟩
  .have:St I w2 ((bs+1,.cells (Value.bool ψ).cells 4 (0,0))::((bs,.cells z.cells 231 (0,0))::(AH++([]++T)))):=s2;have pp:∀a b:Nat×Obj,(a::b::(AH++([]++T))).Perm (AH++([]++(a::b::T))):=λa b=>ab [a,b] AH T;exact this.perm (pp _ _)
  .exact Ip.mono hH x12
  .intro i a hi;unfold A2i Iz at hi;dsimp only at hi;split at hi
   .rename_i e;cases hi;subst e;exact⟨Nat.zero_lt_one,rfl.trans f20.symm,by rw[f20];exact Mf.1 hr0⟩
   .unfold Iz at hi;split at hi
    .rename_i e;cases hi;subst e;show FvR _ _ _ _ _ _ _;rw[f21];exact Go.Y.FvR.mono Y0 x12 hr1
    .cases hi
 let X1:PX:=λt l H'=>∃st:FN,t=231/\l=⟨.u 15,st⟩/\Q (st,ψ,()) () H';let B:Bi:=(bs+1,.cells (Value.bool ψ).cells 4 (0,0))::(bs,.cells z.cells 231 (0,0))::T;let Rp:List PanicEntry->World->Prop:=λch w'=>∃u st I' AH' H',ch=[{v:=.iface 231 u,recovered:=ψ}]/\Ext I w I' w'/\rp Y0.toUS (.u 15) I' w' u st/\St I' w' (AH'++B)/\Ip (Ra Y0) I' w' H' AH'/\Q (st,ψ,()) () H';have hPan:Hy gi B X1 Rp:=by intro v w' I' AH' H' t l u k1 k2 k3 k4 k5 ⟨st,k6,k7,k8⟩;subst k6 k7 k4;exact⟨u,st,I',AH',H',rfl,k1,k5,k2,k3,k8⟩
 have inv:∀w',(invoke (.fn (.func 256) #[.pointer (ν ⟨bs+1,0,δ⟩),.pointer (ν ⟨bs,0,δ⟩)]) #[]).run Y0.P w'=.ok (.enter 256 ⟨[.pointer (ν ⟨bs+1,0,δ⟩),.pointer (ν ⟨bs,0,δ⟩)]⟩) w':=λw'=>by
  have hc:CS Y0.P 256=τ:=by kernel_rfl
  simp [invoke,NC hc]
 have frm:∀{I':Cb}{w':World}{AH':Bi}{a b:Nat×Obj},St I' w' (AH'++(a::b::T))->St I' w' ([b]++([a]++(AH'++T))):=λ{I' w' AH' a b}h=>
  h.perm (((ab AH' [a,b] T)).trans (cm _ _ _))
 refine DE (Vj (Rp:=Rp) (λch w' f' hf'⟨u,st,I',AH',H',k1,k2,k3,k4,k5,k6⟩=>?_) (SA (E:=A53 X1) (g0:=gi) (g:=g) (T:=B) hPan _ hr (k:=λc'=>Fx (Pa [4,5] c'.pt) (cls c' λc=>Q (Zd,τ,()) () c.H)) (Eq.mp (by kernel_rfl) h) λc' f' g' AH' A' hle hr' hx'=>?_))
 .subst k1;have f4:f' 4=.pointer (ν ⟨bs,0,δ⟩):=by rw[hf' 4 (Ait rfl),f24]
  have f5:f' 5=.pointer (ν ⟨bs+1,0,δ⟩):=by rw[hf' 5 (Ait rfl),f25]
  show Lv _ _ _ _ _ [_] _ _;refine⟨by simp,.inr ⟨_,_,256,_,rfl,inv w',CallsD.mono (Anr (frm k4) ?_ k3) ?_⟩⟩
  .exact hz2
  .rintro e u' w'' ⟨rfl,rfl,x3,row,hrow,s3⟩;obtain⟨us,rfl,hF⟩:=HO.1 k3;have hus:σ us=5:=by rw[hF.len];rfl
   exact⟨_,Aib f4 f5 s3 hrow hus,fin (k2.trans x3) s3.drop.drop (Ip.mono k5 x3) (Ff x3 k3) k6⟩
 obtain⟨hsub,hx'⟩:=AJ hx';obtain⟨c1,g1,AH1,A1,hq,hw1,hle1,h1,_,hop1⟩:=DA hr' hx';rw[<-hw1];have f4:f' 4=.pointer (ν ⟨bs,0,δ⟩):=(hr'.pt 4 (Q8 hsub rfl)).trans (by rw[hle.φ];exact f24);have f5:f' 5=.pointer (ν ⟨bs+1,0,δ⟩):=(hr'.pt 5 (Q8 hsub rfl)).trans (by rw[hle.φ];exact f25);have hb:Avt c1 231 #[] (λa=>a=.dat (.u 15) Zd)=((AV.dat (.u 15) Zd:AV Y0)=.dat (.u 15) Zd):=by kernel_rfl
 obtain⟨v,a,rfl,hv,hy⟩:=Aka (ty:=231) (t:=231) (ps:=#[]) h1 (hb▸rfl);have hv:rp Y0.toUS (.u 15) g1.I g1.w v Zd:=hv;obtain⟨us,rfl,hF⟩:=HO.1 hv;have hus:σ us=5:=by rw[hF.len];rfl
 have huc:(Value.agg ⟨us⟩).cells=⟨us⟩:=rfl;have hone:∀v∈(Value.agg ⟨us⟩).cells.toList,v.oneCell'=τ:=Yh hF QT;have h231:Q5 Y0.P 231 τ 5=τ:=by kernel_rfl
 have h4b:Q5 Y0.P 4 ψ 1=τ:=by kernel_rfl
 have s3:=frm (AH':=AH1++A1) (by rw[c9];exact h1.st);obtain⟨w3,row3,r3,x3,s4,hr3⟩:=Go.Y.storeCells (P:=Y0.P) (t:=231) (y:=.agg ⟨us⟩) (o:=0) (n:=5) h231 s3 (by rw[huc];exact hus) hone (by show 0+5<=z.cells.size;omega);have hr3':row3.toList=us:=by
  rw[hr3,huc];have:σ z.cells.toList=5:=by simpa using hz2
  simp [List.drop_eq_nil_of_le,this]
 obtain⟨w4,row4,r4,x4,s5,hr4⟩:=Go.Y.storeCells (P:=Y0.P) (t:=4) (y:=.bool τ) (o:=0) (n:=1) h4b s4.Y2 rfl (by intro v hv;simp [Value.cells]at hv;subst hv;rfl) (by decide);have hr4':row4=#[.bool τ]:=by apply Array.toList_inj.1;rw[hr4];rfl
 subst hr4';refine DE (CK (Ao (hy g1.w _ _ _ _) (NW (Aak (p:=.pointer (ν ⟨bs,0,δ⟩)) (v:=.agg ⟨us⟩) ?_ ?_ r3 _ _ _ _) (NW (Aak (p:=.pointer (ν ⟨bs+1,0,δ⟩)) (v:=.bool τ) ?_ rfl r4 _ _ _ _) ?_))))
 .show put 13 f' (ν 12) (.agg ⟨us⟩) 4=_;rw[Bg (by decide),f4]
 .exact Dw (by decide)
 .show put 13 f' (ν 12) (.agg ⟨us⟩) 5=_;rw[Bg (by decide),f5]
 generalize hg:put 13 (put 13 (put 13 f' (ν 12) (.agg ⟨us⟩)) δ undef) δ undef=f2';have f24':f2' 4=.pointer (ν ⟨bs,0,δ⟩):=by rw[<-hg];show put 13 f' (ν 12) (.agg ⟨us⟩) 4=_;rw[Bg (by decide),f4]
 have f25':f2' 5=.pointer (ν ⟨bs+1,0,δ⟩):=by rw[<-hg];show put 13 f' (ν 12) (.agg ⟨us⟩) 5=_;rw[Bg (by decide),f5]
 refine NU ?_;show Lv _ _ _ _ _ [_] _ _;refine⟨by simp,.inr ⟨_,_,256,_,rfl,inv w4,CallsD.mono (Anq s5) ?_⟩⟩;rintro e u' w'' ⟨rfl,rfl,rfl⟩;have hH1:=h1.hr;rw[hop1]at hH1;have s7:St g1.I w'' (AH1++(A1++T)):=by have:=s5.Y2.drop.drop;rw[c9]at this;exact this
 exact⟨_,Aib f24' f25' s5.Y2 hr3' hus,fin (h1.le.trans (x3.trans x4)) (DQ s7) (Ip.mono hH1 (x3.trans x4)) (Ff (x3.trans x4) hv) hq⟩
end
end Go.Proofs.YtcbkbpjlbmalmaaGreatDoor
namespace Go.Proofs.YtcbkbpjlbmalmaaGreatDoor
open Go Go.X Go.Y
section
def JG(b:Nat)(M:Mn)(H H':HY):Prop:=∀c,H c≠δ->c≠b->c≠M.mb->c≠M.sb->c≠M.S.bl->c≠M.S.bp->c∉M.S.tb->H' c=H c
variable {b:Nat} {M:Mn} {H H':HY}
theorem Kr.h(f:Kr b M H H'):JG b M H H':=λc _ h i g a e d=>f c h i g a e d
theorem Rl.frh(f:Rl M.sb M.S H H'):JG b M H H':=λc g _ _ h a e d=>f c g h a e d
theorem JG.refl:JG b M H H:=λ_ _ _ _ _ _ _ _=>rfl
variable {M':Mn}
theorem JG.trans{H'':HY}(h:JG b M H H')(k:JG b M' H' H'')(e:DD M M'):JG b M H H'':=λc f m g l a j d=>by have i:=h c f m g l a j d;rw[k c (by grind) m (by rw[e.mb];exact g) (by rw[e.sb];exact l) (by rw[e.bl];exact a) (by rw[e.bp];exact j) (by rw[e.tb];exact d),i]
theorem JI.Lu(h:JI H b M)(f:∀c,H c≠δ->H' c=H c):JI H' b M:=
 ⟨by rw[f _ (by rw[h.ob];simp)];exact h.ob,h.st.Lu f,by rw[f _ (by rw[h.me];simp)];exact h.me⟩
def Mn.ws_(M:Mn)(S:B9):Mn:={M with S:=S}
theorem JI.U1{S:B9}(h:JI H b M)(g:Ca H' M.sb S)(f:Rl M.sb M.S H H'):JI H' b (M.ws_ S):=by
 have d:∀{c m:Nat}{x:Y0.O m},H c=ν _->m≠AD->m≠CR->m≠Da->m≠Cy->H' c=ν (.st m x):=λ{c m x}a n l k j=>by
  rw[f c (by grind) (Bk a h.st.st n) (Bk a h.st.lv l) (Bk a h.st.po k) λo=>?_]
  .exact a
  .obtain⟨v,i,e⟩:=ae.1 o;exact Bk a (h.st.ta v i) j e.symm
 exact⟨d h.ob (by decide) (by decide) (by decide) (by decide),g,d h.me (by decide) (by decide) (by decide) (by decide)⟩
theorem JI.Aya(h:JI H b M)(m:B7):JI (Ac H M.mb (.st CC m)) b (M.wm m)/\Kr b M H (Ac H M.mb (.st CC m)):=by
 refine⟨⟨?_,?_,Ah _ _ _⟩,λx _ a _ _ _ _=>Ad _ _ a⟩
 .rw[Ad _ _ (Bk h.ob h.me (by decide))];exact h.ob
 .exact h.st.other h.me (by decide) (by decide) (by decide) (by decide)
structure Kp(M M':Mn):Prop where
 bs:DD M M'
 hs:M'.hs=M.hs
 nx:M'.nx=M.nx
 room:M'.S.po.room=M.S.po.room
 Ar:∀g,M'.Ar g=M.Ar g
 ws:σ M'.ws<=σ M.ws
theorem Kp.refl:Kp M M:=⟨.refl,rfl,rfl,rfl,λ_=>rfl,aq _⟩
theorem Kp.trans{M'':Mn}(h:Kp M M')(k:Kp M' M''):Kp M M'':=⟨h.bs.trans k.bs,k.hs.trans h.hs,k.nx.trans h.nx,k.room.trans h.room,λg=>(k.Ar g).trans (h.Ar g),cb k.ws h.ws⟩
theorem Kp.n(h:Kp M M'):M'.S.n=M.S.n:=by unfold B9.n;rw[h.bs.tb]
theorem NQ.kp(a:MI M)(h:NQ M M')(b:σ M'.ws<=σ M.ws):MI M'/\Kp M M':=by obtain⟨d,c⟩:=a.ext h.hs h.nx h.si h.se;exact⟨d,h.bs,h.hs,h.nx,h.se.room,c,b⟩
theorem MI.held(h:MI M){g e:Int}(d:Ag M.hs g=ν e):e/2=0∨0<Fq M.S.po (e/2):=by
 by_cases b:e/2=0
 .omega
 .right;rw[h.rf _ b];have a:∀{m:List _}{g:Int},Ag m g=ν e->0<Mo m (e/2):=by
   intro m;induction m with
   |nil=>intro g h;cases h
   |cons p m c=>
    intro g h;have h:(if p.1=g then ν _ else Ag m g)=ν e:=h;have f:=@B.Ia p.2 (e/2);have i:=@QR (e/2) m;grind[Mo,B.IH]
  grind
theorem MI.chg(h:MI M){S:B9}(d:SI S)(c:ZS M.S S):MI (M.ws_ S)/\Kp M (M.ws_ S):=by have b:=λ{g e}a=>c.ok e (h.ok g e a).1 (h.held a);refine⟨⟨d,h.nd,λg e a=>⟨(b a).1,(h.ok g e a).2⟩,h.k0,h.k1,h.nx,λi f=>(c.rf i).trans (h.rf i f),h.ln⟩,⟨rfl,rfl,c.bl,c.bp,c.tb⟩,rfl,rfl,c.room,λg=>?_,aq _⟩;show (Ag M.hs g).map (B.den (Ax S.po))=(Ag _ g).map _;grind[Aw4]
theorem MV.empty(c:MeI M.me)(d:∀e,YV M.me e->e.full=ψ):MV M:=⟨c,λe b a _=>by grind⟩
def Mn.fs(M:Mn):List B.Fn:=M.hs.map λp=>B.den M.T p.2
theorem MI.A00(h:MI M)(o:∀i d,M.T i=ν d->0<Gd M.S.cn i):B.Uf M.S.n M.lv M.T M.fs:=by
 refine h.si.sc.cn.A00 h.si.BN B9.Lm o λi d g f=>?_;have k:=(h.si.BN.var g).1;rw[h.rf i (by omega)]at f;have c:∀{m:List _},0<Mo m i->∃p∈m,p.2/2=i:=by
  intro m;induction m with
  |nil=>grind[Mo]
  |cons p m n=>
   intro h;simp  [Mo]at h;by_cases b:p.2/2=i;all_goals simp_all[B.dl]
 obtain⟨p,b,e⟩:=c f;have r:=(h.ok _ _ (FV h.nd b)).1;refine⟨_,bb b,ω (p.2%2=1),λa=>?_⟩;have j:2*i=B.fl p.2 p.2:=by grind[B.fl,B.flip]
 rw[j,B.Kn r]
theorem MI.A31(h:MI M):∀f∈M.fs,B.RD M.S.n f:=λf b=>by obtain⟨p,a,rfl⟩:=an.1 b;exact h.si.BN.rd (h.ok _ _ (FV h.nd a)).1
theorem Ak6{p:A7}(h:F4 p):∃l:List Int,l.Nodup/\(∀i∈l,∃n,GJ p i=ν n)/\p.many<=(σ l:Int):=by
 let l:=((ao (σ p.at_)).map λk:Nat=>(k:Int)).filter λi=>Pb p i;refine⟨l,?_,λi c=>?_,?_⟩
 .refine List.Pairwise.filter _ ?_;rw[cd];exact bj.imp λh e=>h (by omega)
 .obtain⟨n,g,_⟩:=(h.tk (bo.1 c).2).2.2;grind
 .have b:σ ((ao (σ p.at_-1)).map λk=>((k+1:Nat):Int))<=σ (l++p.free):=by
   refine HS ?_ λi c=>?_
   .rw[List.Nodup,cd];exact bj.imp λh e=>h (by omega)
   .obtain⟨k,d,rfl⟩:=an.1 c;have d:=bx.1 d;have a:k+1<σ p.taken:=by rw[<-h.ln];omega
    cases f:p.taken[k+1] with
    |true=>
     refine ac _ (bo.2 ⟨an.2 ⟨k+1,bx.2 (by omega),rfl⟩,?_⟩);show Pb p _=τ;rw[Aa4 a,f]
    |false=>exact ad _ (h.al _ (by omega) (by rw[a7 a,f]))
  rw[aj,List.length_range,bf]at b;have:=h.cnt;omega
theorem Ath(h:SI M.S)(b:M.S.n<=8){R:List B.Fn}(g:∀f∈R,B.RD M.S.n f)(c:B.Uf M.S.n M.lv M.T R):M.S.po.many<=65536+15*(σ R:Int):=by
 obtain⟨l,a,e,k⟩:=Ak6 h.sc.po;have:=B.Uf.few h.BN B9.Lm b g c l a λi j=>by obtain⟨n,d⟩:=e i j;simp_all[Ic]
 omega
theorem Xo{X:PX}{Q:Int×Unit->UU}(m:JI H b M)(f:MI M)(s:MeI M.me)(h:∀M' H' k,JI H' b M'->MI M'->MV M'->Kp M M'->M'.ws=M.ws->(∀i d,M'.T i=ν d->0<Gd M'.S.cn i)->JG b M H H'->Q (k,()) () H'):qK 229 Cv (ν b,()) H Q X:=by refine wF Tryz.f229 {} (?_:((ν b)=δ->Q (0,()) () H)/\(¬(ν b)=δ->∃(a:Nat),(ν b)=ν a/\∃(x:Be),H a=ν (Ob.st CW x)/\x=x/\qK 162 DR (x.T3,()) H (λ(b1 io:UT)(G:HY)=>∃(x:Be),G a=ν (Ob.st CW x)/\x=x/\qK 207 Cv (x.store,()) G (λ(a:qV)_ G=>Q (a.1,()) () G) X) X));refine⟨λh=>qG h (by simp),λ_=>⟨b,rfl,M.ob,m.ob,rfl,Nz m.me s λe l q=>?_⟩⟩;obtain⟨g,t⟩:=m.Aya e;refine⟨_,g.ob,rfl,HF g.st f.si λr H' k p j n o=>?_⟩;obtain⟨c,a⟩:=f.chg j (Wn f.si j n);refine h _ _ k (g.U1 p o) ⟨j,c.nd,c.ok,c.k0,c.k1,c.nx,c.rf,c.ln⟩ (MV.empty l q) ⟨⟨rfl,rfl,a.bs.bl,a.bs.bp,a.bs.tb⟩,a.hs,a.nx,a.room,a.Ar,a.ws⟩ rfl (XW f.si n) ?_;exact t.h.trans  (Rl.frh  o) ⟨rfl,rfl,rfl,rfl,rfl⟩
theorem Ad2{level:Int}{X:PX}{Q:Int×Unit->UU}(z:JI H b M)(l:MI M)(D:MeI M.me)(O:M.nx<576460752303423488)(J:¬(0<=level/\level<M.S.n-1)->∀M' H',JI H' b M'->MI M'->MV M'->Kp M M'->M'.ws=M.ws->JG b M H H'->Q (2,()) () H')(K:∀M' H',(∃i d,M.T i=ν d)->JI H' b M'->MI M'->MV M'->Kp M M'->M'.ws=M.ws->JG b M H H'->Q (7,()) () H')(h:∀M' H'(x y:Int),0<=level->level<M.S.n-1->M.S.lv.vars[level.toNat]?=ν x->M.S.lv.vars[level.toNat+1]?=ν y->JI H' b M'->MI M'->MV M'->Kp M M'->M'.ws=M.ws->JG b M H H'->M'.S.lv=swL M.S.lv level.toNat x y->(∀i d,M'.T i=ν d->0<Gd M'.S.cn i)->Q (0,()) () H'):qK 88 Iv (ν b,level,()) H Q X:=by
 refine wF Tryz.f88 {} (?_:((ν b)=δ->Q (5,()) () H)/\(¬(ν b)=δ->∃(a:Nat),(ν b)=ν a/\∃(x:Be),H a=ν (Ob.st CW x)/\x=x/\qK 162 DR (x.T3,()) H (λ(b1 io:UT)(G:HY)=>∃(x:Be),G a=ν (Ob.st CW x)/\x=x/\qK 163 Iv (x.store,level,()) G (λ(a:qV)_ G=>Q (a.1,()) () G) X) X));refine⟨λh=>qG h (by simp),λ_=>⟨b,rfl,M.ob,z.ob,rfl,Nz z.me D λf A L=>?_⟩⟩;obtain⟨u,F⟩:=z.Aya f;have v:∀{a H'},Ca _ _ a->SI a->ZS _ a->Rl _ _ _ _->JI _ b _/\MI ((M.wm f).ws_ a)/\MV ((M.wm f).ws_ a)/\Kp M ((M.wm f).ws_ a)/\JG b M H H':=λ{a H'}r m p k=>by obtain⟨j,c⟩:=l.chg m p;exact⟨u.U1 r k,⟨m,j.nd,j.ok,j.k0,j.k1,j.nx,j.rf,j.ln⟩,MV.empty A L,⟨⟨rfl,rfl,c.bs.bl,c.bs.bp,c.bs.tb⟩,c.hs,c.nx,c.room,c.Ar,c.ws⟩,F.h.trans  (Rl.frh  k) ⟨rfl,rfl,rfl,rfl,rfl⟩⟩
 refine⟨_,u.ob,rfl,Rq (S:=M.S) u.st l.si (λi=>?_) (λC=>?_) (λa H' E r m p k _=>?_) λa H' x y N I B G r m p k w g=>?_⟩
 .by_cases e:i=0
  .rw[e,Ain l.si.sc.po];omega
  .rw[l.rf i e];have:=@QR i M.hs;have:=l.ln;omega
 .obtain⟨t,q,s,n,o⟩:=v  u.st l.si ZS.refl Rl.refl;exact J C _ _ t q s n rfl o
 .obtain⟨t,q,s,n,o⟩:=v r m p k;exact K _ _ E t q s n rfl o
 .obtain⟨t,q,s,n,o⟩:=v r m p k;exact h _ _ x y N I B G t q s n rfl o w g
end
section
def Arx:Prop:=∀(o:List Int)(H:HY)(X:PX)(Q:List Int×Int×Unit->UU),σ o<=64->(∀l e,σ l<=1000000->Q (l,e,()) () H)->qK 258 MQ (o,()) H (λb _ H'=>qK 257 Js (o,b.1,()) H' Q X) X
def EvK(ev:BQ):Prop:=ev.Kind=1∨ev.Kind=2∨Arx
structure MG(H:HY)(b:Nat)(M:Mn):Prop where
 h:JI H b M
 i:MI M
 v:MV M
 e:∀ev∈M.ws,EvK ev
 n8:M.S.n<=8
 rm:M.S.po.room=1048576
variable {b:Nat} {M:Mn} {H:HY}
theorem Avo{m':B7}{S':B9}{H0 H':HY}(m:MI M)(l:JI H b (M.wm m'))(d:MeI m')(k:∀e,YV m' e->e.full=ψ)(i:JG b M H0 H)(j:Ca H' M.sb S')(f:SI S')(h:ZS M.S S')(g:Rl M.sb M.S H H'):JI H' b ((M.wm m').ws_ S')/\MI ((M.wm m').ws_ S')/\MV ((M.wm m').ws_ S')/\Kp M ((M.wm m').ws_ S')/\JG b M H0 H':=by obtain⟨c,a⟩:=m.chg f h;exact⟨l.U1 j g,⟨f,c.nd,c.ok,c.k0,c.k1,c.nx,c.rf,c.ln⟩,MV.empty d k,⟨⟨rfl,rfl,a.bs.bl,a.bs.bp,a.bs.tb⟩,a.hs,a.nx,a.room,a.Ar,a.ws⟩,i.trans  (Rl.frh  g) ⟨rfl,rfl,rfl,rfl,rfl⟩⟩
theorem Aye(a:MI M)(b:M.nx<576460752303423488)(i:Int):Fq M.S.po i<=576460752303423488:=by
 by_cases e:i=0
 .rw[e,Ain a.si.sc.po];omega
 .rw[a.rf i e];have:=@QR i M.hs;have:=a.ln;omega
variable {X:PX}
theorem Pt{S:B9}{Q:List Int×Unit->UU}(a:Ca H b S)(c:σ S.lv.vars<=64)(h:Q (S.lv.vars,()) () H):qK 161 Mc (ν b,()) H Q X:=by refine wF Tryz.f161 {} (?_:((ν b)=δ->Q ([],()) () H)/\(¬(ν b)=δ->∃(a:Nat),(ν b)=ν a/\∃(x:Ai),H a=ν (Ob.st AD x)/\∃(a:Nat),x.levels=ν a/\x=x/\∃(x:AX),H a=ν (Ob.st CR x)/\(0+σ x.vars)*8<=2^47/\Q ([]++x.vars,()) () (Ac H a (Ob.st CR x))));refine⟨λh=>qG h (by simp),λ_=>⟨b,rfl,S.ob,a.st,S.bl,rfl,rfl,S.lv,a.lv,by omega,?_⟩⟩;rw[LP a.lv];exact h
theorem YB{ev:BQ}{Q:Unit->UU}(I:JI H b M)(v:MI M)(R:MeI M.me)(T:M.nx<576460752303423488)(hE:EvK ev)(h:∀M' H',JI H' b M'->MI M'->MV M'->Kp M M'->M'.ws=M.ws->JG b M H H'->Q () () H'):qK 228 Lk (ν b,ev,()) H Q X:=by
 refine wF Tryz.f228 {lp:=[(6,⟨[(28,.one (.own I6)),(30,.nat)],[0,28,29],τ⟩)],im:=[3]} (?_:OJ (ν b) ev H Q X);unfold OJ;refine⟨b,rfl,M.ob,I.ob,rfl,Nz I.me R λB K S=>?_⟩;obtain⟨q,Y⟩:=I.Aya B;have P:σ M.S.lv.vars<=64:=by have:=v.si.BN.od.n64;have:=v.si.vl;grind[B9.n]
 have u:∀{f:B9}{y:Int}{x:HH _}{Q:Int×Unit->Unit->HH _->Prop},Ca x _ f->SI f->ZS _ f->Rl _ _ (Ac H M.mb (.st CC B)) x->(∀e c d,Ca d M.sb c->SI c->ZS _ c->Rl _ _ _ d->Q (e,()) _ d)->Wp _ _ Iv (ν _,y,()) x Q X:=λ{f y x Q}r t a p F=>by refine Rq r t (λi=>by rw[a.rf];exact Aye v T i) (λ_=>F 2 f x r t a p) (λE H' _ j o g m _=>F 7 E _ j o (a.trans g) (p.trans m a.bl a.bp a.tb)) λE H' _ _ _ _ _ _ j o g m _ _=>F 0 E _ j o (a.trans g) (p.trans m a.bl a.bp a.tb)
 have w:∀{c d},Ca d _ c->SI c->ZS _ c->Rl _ _ _ d->Q _ _ d:=λ{c d}j o g m=>by obtain⟨Z,a2,V,U,W⟩:=Avo v q K S Y.h j o g m;exact h _ d Z a2 V U rfl W
 refine⟨λ_=>⟨_,q.ob,rfl,HF q.st v.si λE H' k r t a p=>w r t (Wn v.si t a) p⟩,λG=>⟨λ_=>⟨_,q.ob,rfl,u q.st v.si ZS.refl Rl.refl λe c d j o g m=>w j o g m⟩,λO=>⟨_,q.ob,rfl,Pt q.st P ?_⟩⟩⟩;refine(hE.resolve_left G).resolve_left O _ _ X _ P λl e hl _=>?_;refine⟨λn z H'=>z.1=l/\n=σ l-z.2.1/\z.2.1<=σ l/\∃f,Ca H' _ f/\SI f/\ZS _ f/\Rl M.sb M.S _ H',⟨_,rfl,rfl,ag _,M.S,q.st,v.si,ZS.refl,Rl.refl⟩,?_⟩;rintro n ⟨A,k,_⟩ x ⟨N,C,D,f,r,t,a,p⟩;have N:=N;subst N;have hnk:n=σ A-k:=C;have hk:=D;refine⟨λL _=>?_,λ_=>w r t a p⟩;have s:k<σ A:=L;have J:=(q.U1 r p).ob;refine⟨s,s,_,J,rfl,u r t a p λe c d j o g m=>⟨by grind,σ A-(k+1),by omega,rfl,rfl,by grind,c,j,o,g,m⟩⟩
def Rm(M M':Mn)(Fs:List B.Fn):Prop:=∀R:List B.Fn,(∀F∈Fs,F∈R)->B.Uf M.S.n M.lv M.T R->B.Uf M'.S.n M'.lv M'.T R
variable {M':Mn} {Fs:List B.Fn}
theorem MJ.l{F:B.Fn}(h:MJ M M' F)(hF:F∈Fs):Rm M M' Fs:=λR b a=>h R (b F hF) a
theorem Rm.refl:Rm M M Fs:=λ_ _ h=>h
theorem Rm.trans{M'':Mn}(h:Rm M M' Fs)(k:Rm M' M'' Fs):Rm M M'' Fs:=λR a b=>k R a (h R a b)
def OpS(b:Nat)(M:Mn)(Fs:List B.Fn)(J:HP)(P:Mn->HP)(op:FT Y0 [.ptr] []):Prop:=∀M' H' c(X':PX)(Q':Unit->HP),NR H' c b M'->MI M'->MV M'->Kp M M'->J H'->(∀M'' H'' l,NR H'' c b M''->NQ M' M''->Rm M' M'' Fs->J H''->YT M' M'' l->X' 231 l H'')->(∀M'' H'',NR H'' c b M''->NQ M' M''->Rm M' M'' Fs->J H''->M''.ws=M'.ws->P M'' H''->Q' () H'')->op (ν c,()) H' Q' X'
theorem JG.of_same{H':HY}(f:JG b M' H H')(e:DD M M'):JG b M H H':=λc g j h k a i d=>f c g j (by rw[e.mb];exact h) (by rw[e.sb];exact k) (by rw[e.bl];exact a) (by rw[e.bp];exact i) (by rw[e.tb];exact d)
theorem JG.new{c:Nat}{o:Ob Y0}(h:H c=δ):JG b M H (Ac H c o):=λd a _ _ _ _ _ _=>Ad _ _ λe=>a (by grind)
theorem Xn{J:HP}{P:Mn->HP}{op:FT Y0 [.ptr] []}{Q:Int×Unit->UU}(hM:MG H b M)(hn:M.nx<576460752303423488)(hl:σ M.hs<=60000)(hF:σ Fs<=1000)(hR:∀F∈Fs,B.RD M.S.n F)(W:∀H H',J H->JG b M H H'->J H')(h0:J H)(O:OpS b M Fs J P op)(hq:∀M' H',MG H' b M'->Kp M M'->σ M'.ws<=σ M.ws->J H'->P M' H'->Q (0,()) () H'):qK 187 Nn (ν b,op,()) H Q X:=by
 refine wF Tryz.f187 {lp:=[(2,⟨[(5,.one (.dat .bool))],[0,1],τ⟩)]} (?_:TV (ν b) op H Q X);unfold TV;refine⟨λn z H'=>∃M',n=2*σ M'.ws+(if z.1=τ then 0 else 1)/\MG H' b M'/\Kp M M'/\J H'/\(z.1=τ->B.Uf M'.S.n M'.lv M'.T M'.fs),⟨_,M,rfl,hM,Kp.refl,h0,λh=>by cases h⟩,?_⟩;rintro n ⟨j,_⟩ Z ⟨i,s,t,p,j1,w⟩;have s:=s;have w:=w;refine Agy λc hc=>?_;have f1:JG b i Z (Ac Z c (Ob.st  EM ⟨ν b⟩)):=JG.new hc;have cx:NR _ c b i:=⟨Ah _ _ _,t.h.Lu λd hd=>Ad _ _ λe=>hd (by grind)⟩
 have N:∀{r A},JI A b r->NQ i r->(r.ws=i.ws∨∃q,i.ws=q::r.ws)->MG A b r/\Kp i r:=λ{r A}h2 u m=>by obtain⟨a1,V⟩:=u.kp t.i (by rcases m with e|⟨q,e⟩<;>simp [e]);refine⟨⟨h2,a1,u.mv,λq y=>t.e q ?_,by rw[V.n];exact t.n8,by rw[V.room];exact t.rm⟩,V⟩;grind
 refine O i _ c _ _ cx t.i t.v p (W _ _ j1 (f1.of_same p.bs)) (λr A l I u C K hp=>?_) λr A I u C K m hP=>⟨λ_=>?_,λh=>qG rfl h⟩
 .rcases hp with ⟨rfl,m,hm⟩|⟨q,rfl,m⟩
  .refine⟨_,rfl,rfl,λh=>(by cases h),λ_=>⟨λh=>(by cases h),λ_=>⟨λ_=>⟨λv=>?_,λv=>?_⟩,λh=>qG rfl h⟩⟩⟩
   .obtain⟨a,o⟩:=N I.Pe u (.inl m);refine Xo a.h a.i a.v.me λE H3 k S L v3 g D T f3=>⟨2*σ E.ws+0,?_,E,rfl,⟨S,L,v3,λq y=>a.e q (by grind),by rw[g.n];exact a.n8,by rw[g.room];exact a.rm⟩,(p.trans o).trans g,W _ _ K (f3.of_same (p.trans o).bs),λ_=>L.A00 T⟩
    grind
   .exfalso;have v:=bh.1 v;obtain⟨a,o⟩:=N I.Pe u (.inl m);have G:=C _ (λF hF=>ac _ hF) ((w v).mono λf x=>ad _ x);have:=Ath a.i.si a.n8  (λf x=>by
     rw[o.n];rcases ak.1 x with x|x
     .rw[p.n];grind
     .exact t.i.A31 f x) G
    rw[hm,a.rm,bf]at this;have U:σ i.fs=σ M.hs:=by unfold Mn.fs;rw[aj,p.hs]
    omega
  .obtain⟨a,o⟩:=N I.Pe u (.inr ⟨q,m⟩);refine⟨_,rfl,rfl,λh=>(by cases h),λ_=>⟨λ_=>?_,λh=>qG rfl h⟩⟩;refine YB a.h a.i a.v.me (by rw[(p.trans o).nx];exact hn) (t.e q (by grind)) λE H3 S L v3 g D f3=>⟨2*σ E.ws+1,?_,E,rfl,⟨S,L,v3,λq y=>a.e q (by grind),by rw[g.n];exact a.n8,by rw[g.room];exact a.rm⟩,(p.trans o).trans g,W _ _ K (f3.of_same (p.trans o).bs),λh=>by cases h⟩
   grind
 .obtain⟨a,o⟩:=N I.Pe u (.inl m);exact hq r A a (p.trans o) (p.trans o).ws K hP
end
section
set_option maxRecDepth 100000
set_option maxHeartbeats 2000000
theorem mpF{p:Prop}(h:p)(F:Prop)(e:p=F):F:=Eq.mp e h
def Tm(x:Option Nat)(p1:Int)(p2:Option Nat×Int×qV->HY->(qV->HP)->PX->Prop)(p3:Int)(H:HY)(Q:qV->UU)(X:PX):=qK 147 Iv (x,p1,()) H (λ(b:qV)_ G=>qK 147 Iv (x,p3,()) G (λ(b1:qV)_ G=>p2 (x,b.1,b1.1,()) G (λ(b:qV)(G:HY)=>Q (b.1,()) () G) X) X) X
theorem Aa6 x p1 p2 p3 H Q X(h_:Tm x p1 p2 p3 H Q X):qK 191 Of (x,p1,p2,p3,()) H Q X:=wF Tryz.f191 {} h_
def Alc(x:Option Nat)(a b:Int)(H:HY)(Q:qV->UU)(X:PX):=qK 148 DF (x,a,B.flip b,b,()) H (λ(b:qV)_ G=>Q (b.1,()) () G) X
theorem Alb x a b H Q X(h_:Alc x a b H Q X):qK 172 Bo (x,a,b,()) H Q X:=wF Tryz.f172 {} h_
def WW(x:Option Nat)(p1:Int)(p2:Option Nat×Int×qV->HY->(qV->HP)->PX->Prop)(p3 p4:Int)(p5:Option Nat)(H:HY)(Q:UT->UU)(X:PX):=qK 147 Iv (x,p1,()) H (λ(b:qV)_ G=>qK 147 Iv (x,p3,()) G (λ(b1:qV)_ G=>p2 (x,b.1,b1.1,()) G (λ(b:qV)(G:HY)=>∃(b2:Nat),p5=ν b2/\∃(x1:Bool),G b2=ν (Ob.st Jx x1)/\Q () () (Ac G b2 (Ob.st Jx (ω (b.1=p4))))) X) X) X
theorem Ags x p1 p2 p3 p4 p5 H Q X(h_:WW x p1 p2 p3 p4 p5 H Q X):qK 150 RV (x,p1,p2,p3,p4,p5,()) H Q X:=wF Tryz.f150 {} h_
def Tl(x:Option Nat)(p1:Int)(p2:List Int)(p3:Option Nat×Int×qV->HY->(qV->HP)->PX->Prop)(H:HY)(Q:qV->UU)(X:PX):=σ p2<=2^63-1->∃(V:Nat->Int×Nat×UT->HP),(∃(n:Nat),V n (p1,0,()) H)/\∀n x1 H,V n x1 H->(x1.2.1<σ p2->x1.2.1<=2^63-1->∃(h:x1.2.1<σ p2),qK 147 Iv (x,p2[x1.2.1],()) H (λ(b:qV)_ G=>p3 (x,x1.1,b.1,()) G (λ(b:qV)(G:HY)=>x1.2.1+1<=2^63-1/\∃m,m<n/\V m (b.1,x1.2.1+1,()) G) X) X)/\(¬x1.2.1<σ p2->Q (x1.1,()) () H)
theorem Aa5 x p1 p2 p3 H Q X(h_:Tl x p1 p2 p3 H Q X):qK 146 Oe (x,p1,p2,p3,()) H Q X:=wF Tryz.f146 {lp:=[(3,⟨[(6,.one (.dat I6)),(12,.nat)],[0,3,10,11],τ⟩)]} h_
def Alh(x:Option Nat)(a b:Int)(H:HY)(Q:qV->UU)(X:PX):=qK 148 DF (x,a,b,B.flip b,()) H (λ(b:qV)_ G=>Q (b.1,()) () G) X
theorem Alg x a b H Q X(h_:Alh x a b H Q X):qK 130 Bo (x,a,b,()) H Q X:=wF Tryz.f130 {} h_
def WX(m:Option Nat)(f:Option Nat×Int×qV->HY->(qV->HP)->PX->Prop)(a b:Int)(H:HY)(Q:Int×qV->UU)(X:PX):=qK 125 GW (m,λ(a1:Option Nat×UT)(H:HY)(Q:qV->HP)(X:Nat->Lf Y0.D->HP)=>qK 191 Of (a1.1,a,f,b,()) H (λ(b:qV)(_:UT)(G:HY)=>Q (b.1,()) G) X,()) H (λ(b:Int×qV)_ G=>Q (b.1,b.2.1,()) () G) X
def All(m:Option Nat)(l:List Int)(H:HY)(Q:Int×qV->UU)(X:PX):=qK 73 LY (m,1,λ(a:Option Nat×Int×qV)(H:HY)(Q:qV->HP)(X:Nat->Lf Y0.D->HP)=>qK 172 Bo (a.1,a.2.1,a.2.2.1,()) H (λ(b:qV)(_:UT)(G:HY)=>Q (b.1,()) G) X,l,()) H (λ(b:Int×qV)_ G=>Q (b.1,b.2.1,()) () G) X
theorem Alk m l H Q X(h_:All m l H Q X):qK 108 Ck (m,l,()) H Q X:=wF Tryz.f108 {} h_
def Aln(m:Option Nat)(f g:Int)(H:HY)(Q:Int×qV->UU)(X:PX):=qK 129 Og (m,λ(a:Option Nat×Int×qV)(H:HY)(Q:qV->HP)(X:Nat->Lf Y0.D->HP)=>qK 78 Bo (a.1,a.2.1,a.2.2.1,()) H (λ(b:qV)(_:UT)(G:HY)=>Q (b.1,()) G) X,f,g,()) H (λ(b:Int×qV)_ G=>Q (b.1,b.2.1,()) () G) X
theorem Alm m f g H Q X(h_:Aln m f g H Q X):qK 99 NB (m,f,g,()) H Q X:=wF Tryz.f99 {} h_
def Alf(x:Option Nat)(a b:Int)(H:HY)(Q:qV->UU)(X:PX):=qK 148 DF (x,a,b,0,()) H (λ(b:qV)_ G=>Q (b.1,()) () G) X
theorem Ale x a b H Q X(h_:Alf x a b H Q X):qK 78 Bo (x,a,b,()) H Q X:=wF Tryz.f78 {} h_
def Aox(x:Option Nat)(a b:Int)(H:HY)(Q:qV->UU)(X:PX):=qK 148 DF (x,a,0,b,()) H (λ(b:qV)_ G=>Q (b.1,()) () G) X
theorem Aow x a b H Q X(h_:Aox x a b H Q X):qK 77 Bo (x,a,b,()) H Q X:=wF Tryz.f77 {} h_
def Adr(m:Option Nat)(f:Option Nat×Int×qV->HY->(qV->HP)->PX->Prop)(a b want:Int)(H:HY)(Q:Bool×qV->UU)(X:PX):=∀(b1:Nat),H b1=δ->qK 149 Nn (m,λ(a2:Option Nat×UT)(H:HY)(Q:UT->HP)(X:Nat->Lf Y0.D->HP)=>qK 150 RV (a2.1,a,f,b,want,ν b1,()) H (λ(_ _:UT)(G:HY)=>Q () G) X,()) (Ac H b1 (Ob.st Jx ψ)) (λ(b:qV)_ G=>∃(x:Bool),G b1=ν (Ob.st Jx x)/\(x->x=x/\Q (ω (b.1=0),b.1,()) () G)/\(¬x->x=x/\Q (ψ,b.1,()) () G)) X
def Alj(x:Option Nat)(a b:Int)(H:HY)(Q:qV->UU)(X:PX):=qK 148 DF (x,a,b,1,()) H (λ(b:qV)_ G=>Q (b.1,()) () G) X
theorem Ali x a b H Q X(h_:Alj x a b H Q X):qK 74 Bo (x,a,b,()) H Q X:=wF Tryz.f74 {} h_
def Alp(m:Option Nat)(f g:Int)(H:HY)(Q:Int×qV->UU)(X:PX):=qK 129 Og (m,λ(a:Option Nat×Int×qV)(H:HY)(Q:qV->HP)(X:Nat->Lf Y0.D->HP)=>qK 130 Bo (a.1,a.2.1,a.2.2.1,()) H (λ(b:qV)(_:UT)(G:HY)=>Q (b.1,()) G) X,f,g,()) H (λ(b:Int×qV)_ G=>Q (b.1,b.2.1,()) () G) X
theorem Alo m f g H Q X(h_:Alp m f g H Q X):qK 58 NB (m,f,g,()) H Q X:=wF Tryz.f58 {} h_
def Aoz(m:Option Nat)(l:List Int)(H:HY)(Q:Int×qV->UU)(X:PX):=qK 73 LY (m,1,λ(a:Option Nat×Int×qV)(H:HY)(Q:qV->HP)(X:Nat->Lf Y0.D->HP)=>qK 77 Bo (a.1,a.2.1,a.2.2.1,()) H (λ(b:qV)(_:UT)(G:HY)=>Q (b.1,()) G) X,l,()) H (λ(b:Int×qV)_ G=>Q (b.1,b.2.1,()) () G) X
theorem Aoy m l H Q X(h_:Aoz m l H Q X):qK 28 Ck (m,l,()) H Q X:=wF Tryz.f28 {} h_
def Alr(m:Option Nat)(l:List Int)(H:HY)(Q:Int×qV->UU)(X:PX):=qK 73 LY (m,0,λ(a:Option Nat×Int×qV)(H:HY)(Q:qV->HP)(X:Nat->Lf Y0.D->HP)=>qK 74 Bo (a.1,a.2.1,a.2.2.1,()) H (λ(b:qV)(_:UT)(G:HY)=>Q (b.1,()) G) X,l,()) H (λ(b:Int×qV)_ G=>Q (b.1,b.2.1,()) () G) X
theorem Alq m l H Q X(h_:Alr m l H Q X):qK 25 Ck (m,l,()) H Q X:=wF Tryz.f25 {} h_
end
section
variable {M:Mn}
theorem MHs.mv{M':Mn}(h:MHs M M')(v:MV M):MV M':=by
 refine⟨by rw[h.me];exact v.me,λe a c b=>?_⟩;rw[h.me]at a;have k:=v.en e a c b;have n:M'.S.n=M.S.n:=by unfold B9.n;rw[h.bs.tb]
 have t:M'.T=M.T:=h.Ax;have l:M'.lv=M.lv:=by show DW _=DW _;rw[h.lv]
 exact⟨by rw[t];exact k.of,by rw[t];exact k.og,by rw[t];exact k.oh,by rw[t];exact k.or,by rw[t];exact k.den,by rw[n,l,t];exact k.lev⟩
variable {H H':HY} {b:Nat}
theorem MHs.mg{M':Mn}(h:MHs M M')(g:MG H b M)(c:JI H' b M')(a:MI M'):MG H' b M':=
 ⟨c,a,h.mv g.v,by rw[h.ws];exact g.e,by rw[show M'.S.n=M.S.n by unfold B9.n;rw[h.bs.tb]];exact g.n8,by rw[h.room];exact g.rm⟩
theorem MG.Lu(h:MG H b M)(f:∀c,H c≠δ->H' c=H c):MG H' b M:=⟨h.h.Lu f,h.i,h.v,h.e,h.n8,h.rm⟩
structure New(M M':Mn)(F:B.Fn):Prop where
 bs:DD M M'
 nx:M'.nx=M.nx+1
 ln:σ M'.hs=σ M.hs+1
 Ar:∀g,M'.Ar g=if g=M.nx then ν F else M.Ar g
structure G5(b:Nat)(M:Mn)(c:Nat):Prop where
 b:c≠b
 mb:c≠M.mb
 sb:c≠M.sb
 bl:c≠M.S.bl
 bp:c≠M.S.bp
 tb:c∉M.S.tb
variable {c:Nat}
theorem JI.notM(h:JI H b M)(f:H c=δ):G5 b M c:=by
 have a:∀{d:Nat}{o:Ob _},H d=ν o->c≠d:=λg e=>by grind
 refine⟨a h.ob,a h.me,a h.st.st,a h.st.lv,a h.st.po,λj=>?_⟩;obtain⟨v,i,e⟩:=ae.1 j;exact a (h.st.ta v i) e.symm
theorem G5.same{b c:Nat}{M M':Mn}(h:G5 b M c)(e:DD M M'):G5 b M' c:=⟨h.b,by rw[e.mb];exact h.mb,by rw[e.sb];exact h.sb,by rw[e.bl];exact h.bl,by rw[e.bp];exact h.bp,by rw[e.tb];exact h.tb⟩
theorem Kr.at(f:Kr b M H H')(h:G5 b M c):H' c=H c:=f c h.b h.mb h.sb h.bl h.bp h.tb
theorem JG.at(f:JG b M H H')(a:H c≠δ)(h:G5 b M c):H' c=H c:=f c a h.b h.mb h.sb h.bl h.bp h.tb
theorem Kr.same{b:Nat}{M M':Mn}{H H':HY}(f:Kr b M' H H')(e:DD M M'):Kr b M H H':=λc i g j a h d=>f c i (by rw[e.mb];exact g) (by rw[e.sb];exact j) (by rw[e.bl];exact a) (by rw[e.bp];exact h) (by rw[e.tb];exact d)
theorem JI.other{m:Nat}{x:Y0.O m}{y:Ob Y0}(h:JI H b M)(a:G5 b M c)(_:H c=ν (.st m x)):JI (Ac H c y) b M:=by
 refine⟨?_,⟨?_,?_,?_,h.st.nd,λv d=>?_⟩,?_⟩
 .rw[Ad _ _ a.b.symm];exact h.ob
 .rw[Ad _ _ a.sb.symm];exact h.st.st
 .rw[Ad _ _ a.bl.symm];exact h.st.lv
 .rw[Ad _ _ a.bp.symm];exact h.st.po
 .rw[Ad _ _ λe=>a.tb (by grind)];exact h.st.ta v d
 .rw[Ad _ _ a.mb.symm];exact h.me
def OpE(b:Nat)(M:Mn)(H:HY)(Fs:List B.Fn)(F:B.Fn)(op:FT Y0 [.ptr] [.int .i64]):Prop:=∀M' H' c(X':PX)(Q':Int×Unit->HP),NR H' c b M'->MI M'->MV M'->Kp M M'->JG b M H H'->(∀M'' H'' l,NR H'' c b M''->NQ M' M''->Rm M' M'' Fs->Kr b M' H' H''->YT M' M'' l->X' 231 l H'')->(∀e M'' H'',NR H'' c b M''->NQ M' M''->Rm M' M'' Fs->Kr b M' H' H''->M''.ws=M'.ws->B.Ok M''.T e->B.den M''.T e=F->Q' (e,()) H'')->op (ν c,()) H' Q' X'
variable {F:B.Fn} {X:PX}
theorem NF{Fs:List B.Fn}{op:FT Y0 [.ptr] [.int .i64]}{Q:Int×Int×Unit->UU}(S:MG H b M)(hn:M.nx<576460752303423487)(hl:σ M.hs<=60000)(hF:σ Fs<=1000)(Z:∀F∈Fs,B.RD M.S.n F)(E:OpE b M H Fs F op)(hq:∀M' H',MG H' b M'->New M M' F->JG b M H H'->Q (M.nx,0,()) () H'):qK 125 GW (ν b,op,()) H Q X:=by
 refine wF Tryz.f125 {pr:=[(6,8)],im:=[3]} (?_:((ν b)=δ->Q (0,5,()) () H)/\(¬(ν b)=δ->∀(c:Nat),H c=δ->qK 187 Nn ((ν b),λ(a:Option Nat×UT)(H:HY)(Q:UT->HP)(X:Nat->Lf Y0.D->HP)=>qK 188 Np (a.1,op,ν c,()) H (λ(c x:UT)(G:HY)=>Q () G) X,()) (Ac H c (Ob.st Cc (0:Int))) (λ(b1:qV)_ G=>(¬b1.1=0->Q (0,b1.1,()) () G)/\(¬¬b1.1=0->∃(b2:Nat),(ν b)=ν b2/\∃(x:Be),G b2=ν (Ob.st CW x)/\x=x/\∃(x1:Int),G c=ν (Ob.st Cc x1)/\x1=x1/\qK 189 D3 (x.store,x1,()) G (λ(b3:qU)_ G=>(¬b3.1->Q (0,8,()) () G)/\(¬¬b3.1->∃(x:Int),G c=ν (Ob.st Cc x)/\x=x/\qK 168 Iv ((ν b),x,()) G (λ(c:qV)_ G=>Q (c.1,0,()) () G) X)) X)) X));refine⟨λh=>qG h (by simp),λ_ v m=>?_⟩;have I:=S.h.notM m;have s:∀d,H d≠δ->Ac H v (Ob.st Cc (0:Int)) d=H d:=λd r=>Ad _ _ λe=>r (by grind);refine Xn   (J:=λH'=>(∃x:Int,H' v=ν (.st Cc x))/\JG b M H _) (P:=λM' H'=>∃e:Int,H' v=ν (.st Cc e)/\B.Ok M'.T e/\B.den M'.T e=F) (S.Lu s) (by omega) hl hF Z (λH1 R⟨⟨x,A⟩,q⟩f=>⟨⟨x,by rw[f.at (by grind) I];exact A⟩,q.trans f .refl⟩) ⟨⟨0,Ah _ _ _⟩,JG.new m⟩ ?_ ?_
 .intro M' H' c X' Q' W iI iV i ⟨⟨x,A⟩,q⟩ u y;apply YI;unfold RF;have j:∀{a},Kr b _ _ a->(∃x:Int,a v=ν _)/\JG b M H a:=λ{a}f=>⟨⟨x,by rw[(f.same i.bs).at I];exact A⟩,q.trans (f.same i.bs).h .refl⟩
  refine E _ _ c _ _ W iI iV i q (λo a l z st n f T=>u o a l z st n (j f) T) λe o a z st n f K C r=>?_;obtain⟨⟨x2,p⟩,G⟩:=j f;have U:=(I.same i.bs).same st.bs;refine⟨v,rfl,x2,p,y o _ ⟨?_,z.Pe.other U p⟩ st n ⟨⟨_,Ah _ _ _⟩,λd L a1 a2 a3 a4 a5 V=>?_⟩ K ⟨e,Ah _ _ _,C,r⟩⟩
  .rw[Ad _ _ (Bk z.cx p (by decide))];exact z.cx
  .rw[Ad _ _ λe=>L (by grind)];exact G d L a1 a2 a3 a4 a5 V
 .intro M' H' g i K ⟨_,q⟩ ⟨e,O,C,r⟩;refine⟨λh=>qG rfl h,λ_=>⟨b,rfl,M'.ob,g.h.ob,rfl,e,O,rfl,?_⟩⟩;refine KK g.h.st g.i.si.sc.po λt ht=>⟨λh=>qG (ht.2 C) h,λ_=>⟨e,O,rfl,?_⟩⟩
  refine PG g.h g.i (by rw[i.nx];omega) C λY R h2 i2 N nx ln w G=>?_;rw[i.nx];refine hq Y R (N.mg g h2 i2) ⟨i.bs.trans N.bs,nx.trans (by rw[i.nx]),ln.trans (by rw[i.hs]),λk=>?_⟩ (q.trans G.h i.bs);rw[w,i.nx,i.Ar];show (if k=M.nx then ν _ else _)=_;rw[r]
def Acb(b:Nat)(T:B.Fn->B.Fn->B.Fn)(f:FT Y0 [.ptr,.int .i64,.int .i64] [.int .i64]):Prop:=∀M' H' c e1 e2(X':PX)(Q':Int×Unit->HP),NR H' c b M'->SI M'.S->MV M'->B.Ok M'.T e1->B.Ok M'.T e2->(∀M'' H'' l,NR H'' c b M''->NQ M' M''->MJ M' M'' (T (B.den M'.T e1) (B.den M'.T e2))->Kr b M' H' H''->YT M' M'' l->X' 231 l H'')->(∀e M'' H'',NR H'' c b M''->NQ M' M''->MJ M' M'' (T (B.den M'.T e1) (B.den M'.T e2))->Kr b M' H' H''->M''.ws=M'.ws->B.Ok M''.T e->B.den M''.T e=T (B.den M'.T e1) (B.den M'.T e2)->Q' (e,()) H'')->f (ν c,e1,e2,()) H' Q' X'
variable {g:Int}
theorem Fz{Q:Int×Unit->UU}(f:NR H c b M)(k:MI M)(hF:M.Ar g=ν F)(h:∀e,B.Ok M.T e->B.den M.T e=F->Q (e,()) () H):qK 147 Iv (ν c,g,()) H Q X:=by
 obtain⟨e,d,i⟩:=Mn.Gj hF;refine Ahh f λj=>by grind λl a=>?_
 rw[d]at a;cases a;exact h e (k.ok g e d).1 i
theorem Agk{n:Int}{T:B.Fn->B.Fn->B.Fn}(d:∀F G a b,(F a=F b)->(G a=G b)->T F G a=T F G b){G:B.Fn}(f:B.RD n F)(e:B.RD n G):B.RD n (T F G):=λa b c=>d F G a b (f a b c) (e a b c)
theorem MG.rd(h:MG H b M)(hF:M.Ar g=ν F):B.RD M.S.n F:=by obtain⟨e,a,rfl⟩:=Mn.Gj hF;exact h.i.si.BN.rd (h.i.ok g e a).1
theorem Vq{T:B.Fn->B.Fn->B.Fn}{f:FT Y0 [.ptr,.int .i64,.int .i64] [.int .i64]}{k:Int}{G:B.Fn}{Q:Int×Int×Unit->UU}(r:MG H b M)(C:M.nx<576460752303423487)(J:σ M.hs<=60000)(N:∀F G a b,(F a=F b)->(G a=G b)->T F G a=T F G b)(O:Acb b T f)(hF:M.Ar g=ν F)(u:M.Ar k=ν G)(I:∀M' H',MG H' b M'->New M M' (T F G)->JG b M H H'->Q (M.nx,0,()) () H'):qK 129 Og (ν b,f,g,k,()) H Q X:=by
 refine wF Tryz.f129 {im:=[5,6,7]} (?_:WX (ν b) f g k H Q X);unfold WX;refine NF (Fs:=[T F G])  r C J (by simp) (λx w=>?_) ?_ λM' H' S R v=>I _ _ S R v
 .rw[aa]at w;subst w;exact Agk N (r.rd hF) (r.rd u)
 .intro M' H' c W Y n o U y v j m;apply Aa6;unfold Tm;refine Fz n o (by rw[y.Ar];exact hF) λD V p=>Fz n o (by rw[y.Ar];exact u) λE L s=>?_;refine O _ _ c D E _ _ n o.si U V L (λi d l t q h f z=>j i d l t q (h.l (by grind)) f z) λe i d t q h f A K P=>m e i d t q (h.l (by grind)) f A K (by rw[P,p,s])
end
section
def CJ(F G:B.Fn):B.Fn:=λa=>F a&&G a
def PA(F G:B.Fn):B.Fn:=λa=>F a ||G a
def RN(F G:B.Fn):B.Fn:=λa=>F a ^^ G a
def Xx(F G:B.Fn):B.Fn:=λa=>!F a ||G a
def Ot(F G:B.Fn):B.Fn:=λa=>F a==G a
variable {b:Nat}
theorem LW{T:B.Fn->B.Fn->B.Fn}{f:FT Y0 [.ptr,.int .i64,.int .i64] [.int .i64]}(g h:Int->Int)(q:∀{N:B.Tb}{e:Int},B.Ok N e->B.Ok N (g e)/\B.Ok N (h e))(t:∀{N:B.Tb}{e1 e2:Int},B.Ok N e1->B.Ok N e2->Db (B.den N e1) (B.den N (g e2)) (B.den N (h e2))=T (B.den N e1) (B.den N e2))(v:∀c e1 e2 H X(Q:Int×Unit->HP),qK 148 DF (c,e1,g e2,h e2,()) H (λb _ H'=>Q (b.1,()) H') X->f (c,e1,e2,()) H Q X):Acb b T f:=by intro E H' c e1 e2 z s w u A r n j m;refine v (ν c) e1 e2 H' z s ?_;have k:=t r n;exact ZI w u A r (q n).1 (q n).2 (λd i l o p a f D=>j d i l o p (by grind) f D) λe d i o p a f C y x=>m e d i o p (by grind) f C y (by grind)
theorem Akd:Acb b CJ (λa H Q X=>qK 74 Bo (a.1,a.2.1,a.2.2.1,()) H (λb _ H'=>Q (b.1,()) H') X):=
 LW (λe=>e) (λ_=>1) (λh=>⟨h,B.ok_one⟩) (λ_ _=>by funext a;rw[B.Fw];simp only[Db,CJ];cases B.den _ _ a<;>simp) λc d f H X Q h=>Ali _ _ _ _ _ _ h
theorem Ayu:Acb b PA (λa H Q X=>qK 77 Bo (a.1,a.2.1,a.2.2.1,()) H (λb _ H'=>Q (b.1,()) H') X):=
 LW (λ_=>0) (λe=>e) (λh=>⟨B.Tp,h⟩) (λ_ _=>by funext a;rw[B.JB];simp only[Db,PA];cases B.den _ _ a<;>simp) λc d f H X Q h=>Aow _ _ _ _ _ _ h
theorem Asu:Acb b RN (λa H Q X=>qK 172 Bo (a.1,a.2.1,a.2.2.1,()) H (λb _ H'=>Q (b.1,()) H') X):=
 LW B.flip (λe=>e) (λh=>⟨h.flip,h⟩) (λ{N d g}i f=>by funext a;rw[B.IA f];simp only[Db,RN];cases B.den N d a<;>simp) λc d g H X Q h=>Alb _ _ _ _ _ _ h
theorem Aum:Acb b Xx (λa H Q X=>qK 78 Bo (a.1,a.2.1,a.2.2.1,()) H (λb _ H'=>Q (b.1,()) H') X):=
 LW (λe=>e) (λ_=>0) (λh=>⟨h,B.Tp⟩) (λ_ _=>by funext a;rw[B.JB];simp only[Db,Xx];cases B.den _ _ a<;>simp) λc d f H X Q h=>Ale _ _ _ _ _ _ h
theorem Auo:Acb b Ot (λa H Q X=>qK 130 Bo (a.1,a.2.1,a.2.2.1,()) H (λb _ H'=>Q (b.1,()) H') X):=
 LW (λe=>e) B.flip (λh=>⟨h,h.flip⟩) (λ{N d f}i g=>by funext a;rw[B.IA g];simp only[Db,Ot];cases B.den N d a<;>cases B.den N f a<;>rfl) λc d f H X Q h=>Alg _ _ _ _ _ _ h
def X4(T:B.Fn->B.Fn->B.Fn):B.Fn->List B.Fn->List B.Fn
 |_,[]=>[]
 |F,G::l=>T F G::X4 T (T F G) l
theorem ZC{T:B.Fn->B.Fn->B.Fn}:∀{l:List B.Fn}{F:B.Fn},σ (X4 T F l)=σ l
 | [],_=>rfl
 |_::l,_=>by simp [X4,ZC (l:=l)]
theorem Aen{T:B.Fn->B.Fn->B.Fn}:∀{l:List B.Fn}{F:B.Fn}{k:Nat}(h:k<σ l),T ((l.take k).foldl T F) l[k]∈X4 T F l
 |G::l,F,0,_=>c8
 |G::l,F,k+1,h=>az _ (by simpa using Aen (l:=l) (F:=T F G) (k:=k) (by simpa using h))
theorem Aem{n:Int}{T:B.Fn->B.Fn->B.Fn}(d:∀F G a b,(F a=F b)->(G a=G b)->T F G a=T F G b):∀{l:List B.Fn}{F:B.Fn},B.RD n F->(∀G∈l,B.RD n G)->∀K∈X4 T F l,B.RD n K
 | [],_,_,_,_,h=>qG h List.not_mem_nil
 |G::l,F,i,e,K,h=>by
  have c:=Agk d i (e G c8);rcases ay.1 h with rfl|h
  .exact c
  .exact Aem d c (λf g=>e f (az _ g)) K h
variable {M:Mn} {l:List Int} {Gs:List B.Fn} {H:HY} {X:PX} {Q:Int×Int×Unit->UU}
theorem PB{T:B.Fn->B.Fn->B.Fn}{f:FT Y0 [.ptr,.int .i64,.int .i64] [.int .i64]}{e0:Int}{F0:B.Fn}(K:MG H b M)(hn:M.nx<576460752303423487)(hl:σ M.hs<=60000)(hT:∀F G a b,(F a=F b)->(G a=G b)->T F G a=T F G b)(hf:Acb b T f)(o:∀N:B.Tb,B.Ok N e0/\B.den N e0=F0)(hlen:σ l<=1000)(hG:l.map M.Ar=Gs.map ν)(hq:∀M' H',MG H' b M'->New M M' (Gs.foldl T F0)->JG b M H H'->Q (M.nx,0,()) () H'):qK 73 LY (ν b,e0,f,l,()) H Q X:=by
 refine wF Tryz.f73 {im:=[5,6,7]} (?_:qK 125 GW ((ν b),λ(a:Option Nat×UT)(H:HY)(Q:qV->HP)(X:Nat->Lf Y0.D->HP)=>qK 146 Oe (a.1,e0,l,f,()) H (λ(c:qV)(x:UT)(G:HY)=>Q (c.1,()) G) X,()) H (λ(c:Int×qV)_ G=>Q (c.1,c.2.1,()) () G) X);have hgl:σ Gs=σ l:=by have:=congrArg σ hG;simpa using this.symm
 have D:∀k(h:k<σ l)(V:k<σ Gs),M.Ar l[k]=ν Gs[k]:=λk h V=>by
  have Y:(l.map M.Ar)[k]?=(Gs.map ν)[k]?:=by rw[hG]
  rw[bi,bi,a7 h,a7 V]at Y;simpa using Y
 have U:B.RD M.S.n F0:=by rw[<-(o M.T).2];exact K.i.si.BN.rd (o M.T).1
 refine NF (Fs:=X4 T F0 Gs) (F:=Gs.foldl T F0) K hn hl (by grind[ZC]) (Aem hT U λG O=>?_) ?_ λM' H' g' nw W=>hq M' H' g' nw W
 .obtain⟨k,Z,rfl⟩:=ae.1 O;exact K.rd (D k (by omega) Z)
 .intro M' H' c X' Q' cx iI iV kp W x A;apply Aa5;unfold Tl;intro _;refine⟨λn z y=>n=σ l-z.2.1/\z.2.1<=σ l/\∃g,NR y c b g/\NQ M' g/\Rm M' g (X4 T F0 Gs)/\Kr b M' H' y/\g.ws=M'.ws/\B.Ok g.T z.1/\B.den g.T z.1=(Gs.take z.2.1).foldl T F0,⟨_,rfl,ag _,M',cx,NQ.refl iI.si iV,Rm.refl,Kr.refl,rfl,(o _).1,(o _).2⟩,?_⟩;rintro n ⟨e,k,_⟩ y ⟨w,C,g,t,d,j,R,I,E,r⟩;have hnk:n=σ l-k:=w;have Z:k<=σ l:=C;replace E:B.Ok g.T e:=E;replace r:B.den g.T e=(Gs.take k).foldl T F0:=r;obtain⟨i2,L⟩:=d.kp iI (by grind);refine⟨λq _=>?_,λq=>?_⟩
  .have i:k<σ l:=q;have s:k<σ Gs:=by omega
   have p:=Aen (T:=T) (F:=F0) s;refine⟨i,Fz t i2 (by rw[L.Ar,kp.Ar];exact D k i s) λe2 o3 S=>?_⟩;refine hf g y c e e2 _ _ t i2.si d.mv E o3 (λJ H3 l3 v u m P hp=>?_) λe3 J H3 v u m P w3 o4 d4=>⟨by grind,σ l-(k+1),by omega,rfl,by grind,J,v,d.trans u,j.trans (m.l (by grind)),R.trans P d.bs,w3.trans I,o4,?_⟩
   .exact x J H3 l3 v (d.trans u) (j.trans (m.l (by grind))) (R.trans P d.bs) (hp.step I)
   .show B.den J.T e3=(Gs.take (k+1)).foldl T F0;rw[d4,r,S,a8 s,ce];rfl
  grind
theorem Si(g:MG H b M)(f:M.nx<576460752303423487)(d:σ M.hs<=60000)(c:σ l<=1000)(e:l.map M.Ar=Gs.map ν)(j:∀M' H',MG H' b M'->New M M' (Gs.foldl CJ (λ_=>τ))->JG b M H H'->Q (M.nx,0,()) () H'):qK 25 Ck (ν b,l,()) H Q X:=by refine Alq _ _ _ _ _ (PB (T:=CJ) g f d (λF G a b i h=>by grind[CJ]) Akd (λN=>⟨B.Tp,B.JB⟩) c e j)
theorem Zp(g:MG H b M)(f:M.nx<576460752303423487)(d:σ M.hs<=60000)(c:σ l<=1000)(e:l.map M.Ar=Gs.map ν)(j:∀M' H',MG H' b M'->New M M' (Gs.foldl PA (λ_=>ψ))->JG b M H H'->Q (M.nx,0,()) () H'):qK 28 Ck (ν b,l,()) H Q X:=by refine Aoy _ _ _ _ _ (PB (T:=PA) g f d (λF G a b i h=>by grind[PA]) Ayu (λN=>⟨B.ok_one,B.Fw⟩) c e j)
theorem Agt(g:MG H b M)(f:M.nx<576460752303423487)(d:σ M.hs<=60000)(c:σ l<=1000)(e:l.map M.Ar=Gs.map ν)(j:∀M' H',MG H' b M'->New M M' (Gs.foldl RN (λ_=>ψ))->JG b M H H'->Q (M.nx,0,()) () H'):qK 108 Ck (ν b,l,()) H Q X:=by refine Alk _ _ _ _ _ (PB (T:=RN) g f d (λF G a b i h=>by grind[RN]) Asu (λN=>⟨B.ok_one,B.Fw⟩) c e j)
theorem Agu{g k:Int}{F G:B.Fn}(h:MG H b M)(f:M.nx<576460752303423487)(c:σ M.hs<=60000)(hF:M.Ar g=ν F)(e:M.Ar k=ν G)(d:∀M' H',MG H' b M'->New M M' (Xx F G)->JG b M H H'->Q (M.nx,0,()) () H'):qK 99 NB (ν b,g,k,()) H Q X:=
 Alm _ _ _ _ _ _ (Vq (T:=Xx) h f c (λF G a b j i=>by grind[Xx]) Aum hF e d)
theorem Sg{g k:Int}{F G:B.Fn}(h:MG H b M)(f:M.nx<576460752303423487)(c:σ M.hs<=60000)(hF:M.Ar g=ν F)(e:M.Ar k=ν G)(d:∀M' H',MG H' b M'->New M M' (Ot F G)->JG b M H H'->Q (M.nx,0,()) () H'):qK 58 NB (ν b,g,k,()) H Q X:=
 Alo _ _ _ _ _ _ (Vq (T:=Ot) h f c (λF G a b j i=>by grind[Ot]) Auo hF e d)
end
section
variable {b:Nat} {M:Mn} {g:Int} {F G:B.Fn} {H:HY} {X:PX}
theorem Ald{T:B.Fn->B.Fn->B.Fn}{f:FT Y0 [.ptr,.int .i64,.int .i64] [.int .i64]}{k want:Int}{W:B.Fn}{Q:Bool×Int×Unit->UU}(D:MG H b M)(hn:M.nx<576460752303423487)(hl:σ M.hs<=60000)(hT:∀F G a b,(F a=F b)->(G a=G b)->T F G a=T F G b)(hf:Acb b T f)(hF:M.Ar g=ν F)(V:M.Ar k=ν G)(hw:∀N:B.Tb,B.Ok N want/\B.den N want=W)(Z:∀M' H'(t:Bool),(t=τ↔T F G=W)->MG H' b M'->Kp M M'->JG b M H H'->Q (t,0,()) () H'):qK 76 WA (ν b,f,g,k,want,()) H Q X:=by
 refine wF Tryz.f76 {pr:=[(12,9)],im:=[6,7,8,9]} (?_:Adr (ν b) f g k want H Q X);unfold Adr;intro A n;have S:=D.h.notM n;have v:∀d,H d≠δ->Ac H A (Ob.st Jx ψ) d=H d:=λd L=>Ad _ _ λe=>L (by grind);apply YH;unfold RB;refine⟨λh=>qG h (by simp),λ_=>?_⟩;refine Xn  (Fs:=[T F G]) (J:=λH'=>(∃x:Bool,H' A=ν (.st Jx x))/\JG b M H _) (P:=λM' H'=>∃x:Bool,H' A=ν (.st Jx x)/\(x=τ↔T F G=W)) (D.Lu v) (by omega) hl (by simp) (λx m=>?_) (λH1 H2⟨⟨x,m⟩,u⟩f=>⟨⟨x,by rw[f.at (by grind) S];exact m⟩,u.trans f .refl⟩) ⟨⟨ψ,Ah _ _ _⟩,JG.new n⟩ ?_ ?_
 .rw[aa]at m;subst m;exact Agk hT (D.rd hF) (D.rd V)
 .intro M' H' c X' Q' O E iV p ⟨⟨x,m⟩,u⟩ w y;apply Ags;unfold WW;have j:∀{i},Kr b _ _ i->(∃x:Bool,i A=ν _)/\JG b M H i:=λ{i}f=>⟨⟨x,by rw[(f.same p.bs).at S];exact m⟩,u.trans (f.same p.bs).h .refl⟩
  refine Fz O E (by rw[p.Ar];exact hF) λe1 o1 I=>Fz O E (by rw[p.Ar];exact V) λe2 o2 R=>?_;refine hf _ _ c _ _ _ _ O E.si iV o1 o2 (λo i l C st q f hp=>w o i l C st (q.l (by grind)) (j f) hp) λe o i C st q f K ho L=>?_;obtain⟨⟨x2,r⟩,f2⟩:=j f;have n2:=(S.same p.bs).same st.bs;refine⟨A,rfl,x2,r,y o _ ⟨?_,C.Pe.other n2 r⟩ st (q.l (by grind)) ⟨⟨_,Ah _ _ _⟩,λd U a1 a2 a3 a4 a5 a6=>?_⟩ K ⟨_,Ah _ _ _,?_⟩⟩
  .rw[Ad _ _ (Bk C.cx r (by decide))];exact C.cx
  .rw[Ad _ _ λe=>U (by grind)];exact f2 d U a1 a2 a3 a4 a5 a6
  .show decide _=τ↔_;rw[decide_eq_true_eq,st.si.BN.eq_iff B9.Lm ho (hw _).1,(hw _).2];show B.den _ e=W↔_;rw[L,I,R]
 grind
theorem Aa7{k:Int}{Q:Bool×Int×Unit->UU}(v:MG H b M)(s:M.nx<576460752303423487)(u:σ M.hs<=60000)(hF:M.Ar g=ν F)(w:M.Ar k=ν G)(n:∀M' H'(t:Bool),(t=τ↔∃a,F a=τ/\G a=τ)->MG H' b M'->Kp M M'->JG b M H H'->Q (t,0,()) () H'):qK 27 MR (ν b,g,k,()) H Q X:=by
 refine wF Tryz.f27 {} (?_:qK 76 WA ((ν b),λ(a:Option Nat×Int×qV)(H:HY)(Q:qV->HP)(X:Nat->Lf Y0.D->HP)=>qK 74 Bo (a.1,a.2.1,a.2.2.1,()) H (λ(c:qV)(x:UT)(G:HY)=>Q (c.1,()) G) X,g,k,1,()) H (λ(c:Bool×qV)_ G=>(¬c.1->Q (ω (c.2.1=0),c.2.1,()) () G)/\(¬¬c.1->Q (ψ,c.2.1,()) () G)) X);refine Ald   v s u λF G a b f j=>by grind[CJ] Akd hF w (λN=>⟨B.ok_one,B.Fw⟩) λM' H' t q o p r=>⟨λl=>?_,λl=>?_⟩
 .refine n _ _ _ ⟨λ_=>?_,λ_=>by simp⟩ o p r;have e:=λh=>l (q.2 h);refine am λi=>e (funext λa=>?_);grind[CJ]
 .have d:=q.1 (bh.1 l);refine n _ _ _ ⟨λh=>(by cases h),λ⟨a,f,j⟩=>?_⟩ o p r;have:=congrFun d a;grind[CJ]
def Acq(v:Int):B.Fn:=λa=>a v
variable {Q:Int×Int×Unit->UU}
theorem Agz{v:Int}(s:MG H b M)(G:M.nx<576460752303423487)(L:σ M.hs<=60000)(r:0<=v/\v<M.S.n)(C:∀M' H',MG H' b M'->New M M' (Acq v)->JG b M H H'->Q (M.nx,0,()) () H'):qK 55 Oh (ν b,v,()) H Q X:=by
 refine wF Tryz.f55 {im:=[3]} (?_:((ν b)=δ->Q (0,5,()) () H)/\(¬(ν b)=δ->∃(c:Nat),(ν b)=ν c/\∃(x:Be),H c=ν (Ob.st CW x)/\x=x/\qK 124 Iv (x.store,v,()) H (λ(c:qV)_ G=>(c.1<0->Q (0,9,()) () G)/\(¬c.1<0->qK 125 GW ((ν b),λ(a:Option Nat×UT)(H:HY)(Q:qV->HP)(X:Nat->Lf Y0.D->HP)=>qK 126 LZ (a.1,v,()) H (λ(c:qV)(x:UT)(G:HY)=>Q (c.1,()) G) X,()) G (λ(c:Int×qV)_ G=>Q (c.1,c.2.1,()) () G) X)) X));refine⟨λh=>qG h (by simp),λ_=>⟨b,rfl,M.ob,s.h.ob,rfl,Fk s.h.st ⟨λg=>?_,λ_=>?_⟩⟩⟩
 .have:=s.i.si.lvl.2 r;omega
 .refine NF (Fs:=[Acq v])  s G L (by simp) (λF x=>?_) ?_ C
  .rw[aa]at x;subst x;exact λa c h=>h v r.1 r.2
  .intro M' H' c P O E z J D R p m;apply XJ;unfold Qe;have w:=D.n;have d:0<=v/\v<M'.S.n:=by omega
   have q:=(z.si.BN.od.N7 v d.1 d.2).2;have y:(λa=>if a v=τ then B.den M'.T 0 a else B.den M'.T 1 a)=Acq v:=by funext a;rw[B.JB,B.Fw];simp only[Acq];cases a v<;>rfl
   have o:B.S3 M'.lv (M'.lv v) (Acq v) λa=>if a v=τ then B.den M'.T 0 a else B.den M'.T 1 a:=by rw[y];exact B.S3.refl  λa c h=>h v d.1 d.2 (bz _)
   exact UW E z.si J d (at_one (by grind)) (Wq (by grind)) o (λj i l t u k f K=>p j i l t u (k.l (aa.2 rfl)) f K) λe j i t u k f A N I=>m e j i t u (k.l (aa.2 rfl)) f A N.1 (by grind)
theorem Ad5{f h:Int}{K:B.Fn}(o:MG H b M)(I:M.nx<576460752303423487)(L:σ M.hs<=60000)(hF:M.Ar f=ν F)(y:M.Ar g=ν G)(A:M.Ar h=ν K)(J:∀M' H',MG H' b M'->New M M' (Db F G K)->JG b M H H'->Q (M.nx,0,()) () H'):qK 101 Oi (ν b,f,g,h,()) H Q X:=by
 refine wF Tryz.f101 {im:=[5,6,7]} (?_:qK 125 GW ((ν b),λ(a:Option Nat×UT)(H:HY)(Q:qV->HP)(X:Nat->Lf Y0.D->HP)=>qK 170 Md (a.1,f,g,h,()) H (λ(c:qV)(x:UT)(G:HY)=>Q (c.1,()) G) X,()) H (λ(c:Int×qV)_ G=>Q (c.1,c.2.1,()) () G) X);refine NF (Fs:=[Db F G K])  o I L (by simp) (λx z=>?_) ?_ J
 .rw[aa]at z;subst z;exact λa c i=>by simp  [Db];rw[o.rd hF a c i,o.rd y a c i,o.rd A a c i]
 .intro M' H' c V T p q O t Z n m;apply XK;unfold Qf;refine Fz p q (by rw[t.Ar];exact hF) λU R u=>Fz p q (by rw[t.Ar];exact y) λW D v=>Fz p q (by rw[t.Ar];exact A) λY E s=>?_;exact ZI p q.si O R D E (λk j l w r d f C=>n k j l w r (d.l (by grind)) f C) λe k j w r d f S N P=>m e k j w r (d.l (by grind)) f S N (by rw[P,u,v,s])
theorem Abj(d:MG H b M)(o:M.nx<576460752303423487)(hF:M.Ar g=ν F)(i:∀M' H',MG H' b M'->New M M' F->JG b M H H'->Q (M.nx,0,()) () H'):qK 131 Oh (ν b,g,()) H Q X:=
 Ad8 d.h d.i (by omega) λh=>by grind λn M' H' a l j e k m c f=>by rw[hF]at a;cases a;exact i _ _ (e.mg d l j) ⟨e.bs,k,m,c⟩ f.h
theorem Vs(e:MG H b M)(p:M.nx<576460752303423487)(hF:M.Ar g=ν F)(l:∀M' H',MG H' b M'->New M M' (λa=>!F a)->JG b M H H'->Q (M.nx,0,()) () H'):qK 98 Oh (ν b,g,()) H Q X:=
 Ag0 e.h e.i (by omega) λh=>by grind λo M' H' c k m i j n d f=>by rw[hF]at c;cases c;exact l _ _ (i.mg e k m) ⟨i.bs,j,n,d⟩ f.h
structure A4n(M M':Mn)(g:Int):Prop where
 bs:DD M M'
 nx:M'.nx=M.nx
 ln:σ M'.hs+1=σ M.hs
 Ar:∀k,M'.Ar k=if k=g then δ else M.Ar k
theorem T6{Q:Int×Unit->UU}(a:MG H b M)(q:M.nx<576460752303423487)(o:1<g)(hF:M.Ar g=ν F)(n:∀M' H'(e:Int),MG H' b M'->A4n M M' g->JG b M H H'->Q (e,()) () H'):qK 110 Em (ν b,[g],()) H Q X:=by
 obtain⟨e,h,_⟩:=Mn.Gj hF;refine Ad7 a.h a.i (by omega) λM' H' l m c j d f=>?_;have p:(Qc [g] M.hs).1=Dl M.hs g:=by unfold Qc;rw[h];simp  [o];rfl
 rw[p]at d;refine n _ _ _ (c.mg a l m) ⟨c.bs,j,by rw[d];exact(TD (i:=0) h).2,λk=>?_⟩ f.h;show (Ag _ k).map (B.den M'.T)=_;rw[d,Jd a.i.nd,show M'.T=M.T from c.Ax];split<;>rfl
end
section
set_option maxRecDepth 100000
set_option maxHeartbeats 2000000
def TX(x:Option Nat)(p1:List CT)(H:HY)(Q:qV->UU)(X:PX):=(0+σ p1)*16<=2^47/\(σ ([]++p1)<=2^63-1->∃(V:Nat->List CT×qV->HP),(∃(n:Nat),V n ([]++p1,0,()) H)/\∀n x1 H,V n x1 H->(x1.2.1<(↑(σ ([]++p1)):Int)->∃(V1:Nat->List CT×qV->HP),(∃(n:Nat),V1 n (x1.1,x1.2.1,()) H)/\∀n1 x2 H,V1 n1 x2 H->(0<x2.2.1->IK x2.2.1->IK (x2.2.1-1)/\(IK (x2.2.1-1)->(IK (x2.2.1-1)->0<=x2.2.1-1)/\∃(h:(x2.2.1-1).toNat<σ x2.1),∃(h:(x2.2.1-1).toNat<σ x2.1),IK x2.2.1->(IK x2.2.1->0<=x2.2.1)/\∃(h1:x2.2.1.toNat<σ x2.1),qK 145 Iv (x,x2.1[(x2.2.1-1).toNat].Var,()) H (λ(b:qV)_ G=>∃(h:x2.2.1.toNat<σ x2.1),qK 145 Iv (x,x2.1[x2.2.1.toNat].Var,()) G (λ(b1:qV)_ G=>(b.1<b1.1->IK x2.2.1->IK (x2.2.1-1)/\(IK x2.2.1->(IK x2.2.1->0<=x2.2.1)/\∃(h:x2.2.1.toNat<σ x2.1),∃(h:x2.2.1.toNat<σ x2.1),IK x2.2.1->IK (x2.2.1-1)/\(IK (x2.2.1-1)->(IK (x2.2.1-1)->0<=x2.2.1-1)/\∃(h2:(x2.2.1-1).toNat<σ x2.1),∃(h3:(x2.2.1-1).toNat<σ x2.1),IK (x2.2.1-1)->(IK (x2.2.1-1)->0<=x2.2.1-1)/\∃(h4:(x2.2.1-1).toNat<σ x2.1),(x2.2.1-1).toNat<σ x2.1/\(IK x2.2.1->(IK x2.2.1->0<=x2.2.1)/\∃(h5:x2.2.1.toNat<σ (x2.1.set (x2.2.1-1).toNat x2.1[x2.2.1.toNat])),x2.2.1.toNat<σ (x2.1.set (x2.2.1-1).toNat x2.1[x2.2.1.toNat])/\(IK x2.2.1->IK (x2.2.1-1)/\∃m,m<n1/\V1 m ((x2.1.set (x2.2.1-1).toNat x2.1[x2.2.1.toNat]).set x2.2.1.toNat x2.1[(x2.2.1-1).toNat],x2.2.1-1,()) G)))))/\(¬b.1<b1.1->IK x1.2.1->IK (x1.2.1+1)/\∃m,m<n/\V m (x2.1,x1.2.1+1,()) G)) X) X/\∃(h2:x2.2.1.toNat<σ x2.1),qK 145 Iv (x,x2.1[(x2.2.1-1).toNat].Var,()) H (λ(b:qV)_ G=>qK 145 Iv (x,x2.1[x2.2.1.toNat].Var,()) G (λ(b1:qV)_ G=>(b.1<b1.1->IK x2.2.1->IK (x2.2.1-1)/\(IK x2.2.1->(IK x2.2.1->0<=x2.2.1)/\∃(h:x2.2.1.toNat<σ x2.1),∃(h:x2.2.1.toNat<σ x2.1),IK x2.2.1->IK (x2.2.1-1)/\(IK (x2.2.1-1)->(IK (x2.2.1-1)->0<=x2.2.1-1)/\∃(h3:(x2.2.1-1).toNat<σ x2.1),∃(h4:(x2.2.1-1).toNat<σ x2.1),IK (x2.2.1-1)->(IK (x2.2.1-1)->0<=x2.2.1-1)/\∃(h5:(x2.2.1-1).toNat<σ x2.1),(x2.2.1-1).toNat<σ x2.1/\(IK x2.2.1->(IK x2.2.1->0<=x2.2.1)/\∃(h6:x2.2.1.toNat<σ (x2.1.set (x2.2.1-1).toNat x2.1[x2.2.1.toNat])),x2.2.1.toNat<σ (x2.1.set (x2.2.1-1).toNat x2.1[x2.2.1.toNat])/\(IK x2.2.1->IK (x2.2.1-1)/\∃m,m<n1/\V1 m ((x2.1.set (x2.2.1-1).toNat x2.1[x2.2.1.toNat]).set x2.2.1.toNat x2.1[(x2.2.1-1).toNat],x2.2.1-1,()) G)))))/\(¬b.1<b1.1->IK x1.2.1->IK (x1.2.1+1)/\∃m,m<n/\V m (x2.1,x1.2.1+1,()) G)) X) X))/\(¬0<x2.2.1->dup (IK x1.2.1->IK (x1.2.1+1)/\∃m,m<n/\V m (x2.1,x1.2.1+1,()) H)))/\(¬x1.2.1<(↑(σ ([]++p1)):Int)->σ x1.1<=2^63-1->∃(V:Nat->Int×List CT×Nat×UT->HP),(∃(n:Nat),V n (0,x1.1,0,()) H)/\∀n x2 H,V n x2 H->(x2.2.2.1<σ x1.1->x2.2.2.1<=2^63-1->∃(h:x2.2.2.1<σ x2.2.1),∃(h:x2.2.2.1<σ x2.2.1),(x2.2.1[x2.2.2.1].YP->qK 127 DF (x,x2.2.1[x2.2.2.1].Var,1,x2.1,()) H (λ(b:qV)_ G=>x2.2.2.1+1<=2^63-1/\∃m,m<n/\V m (b.1,x2.2.1,x2.2.2.1+1,()) G) X)/\(¬x2.2.1[x2.2.2.1].YP->qK 127 DF (x,x2.2.1[x2.2.2.1].Var,x2.1,1,()) H (λ(b:qV)_ G=>x2.2.2.1+1<=2^63-1/\∃m,m<n/\V m (b.1,x2.2.1,x2.2.2.1+1,()) G) X))/\(¬x2.2.2.1<σ x1.1->Q (x2.1,()) () H)))
theorem Ab2 x p1 H Q X(h_:TX x p1 H Q X):qK 144 Oj (x,p1,()) H Q X:=wF Tryz.f144 {lp:=[(12,⟨[(7,.one (.dat I6)),(58,.one (.own (.u 11))),(60,.nat)],[0,58,59],τ⟩),(6,⟨[(4,.one (.own (.u 11))),(6,.one (.dat I6))],[0,4,14,15],τ⟩),(3,⟨[(4,.one (.own (.u 11))),(15,.one (.dat I6))],[0,4,14],τ⟩)]} h_
def RH(m:Option Nat)(l:List CT)(H:HY)(Q:qV->UU)(X:PX):=letI E:=co 0 l;σ l<=2^63-1->∃(V:Nat->Nat×UT->HP),(∃(n:Nat),V n (0,()) H)/\∀n x H,V n x H->(x.1<σ l->x.1<=2^63-1->∃(h:x.1<σ l),letI F:=l[x.1].Var;(F<0->dup (Q (9,()) () H))/\(¬F<0->qK 50 Cv (m,()) H (λ(b:qV)_ G=>(b.1<=F->Q (9,()) () G)/\(¬b.1<=F->x.1+1<=2^63-1/\∃m,m<n/\V m (x.1+1,()) G)) X))/\(¬x.1<σ l->σ l<=2^63-1->∃(V:Nat->Bool×Nat×UT->HP),(∃(n:Nat),V n (ψ,0,()) H)/\∀n x H,V n x H->(x.2.1<σ l->x.2.1<=2^63-1->∃(h:x.2.1<σ l),letI I:=cp (x.2.1-0) E;0<=x.2.1/\x.2.1<=σ l/\(σ I<=2^63-1->∃(V1:Nat->Bool×(Int×qU)×Nat×UT->HP),(∃(n:Nat),V1 n (x.1,(l[x.2.1].Var,l[x.2.1].YP,()),0,()) H)/\∀n1 x1 H,V1 n1 x1 H->(x1.2.2.1<σ I->x1.2.2.1<=2^63-1->∃(h:x1.2.2.1<σ I),letI O:=x1.2.1.1=I[x1.2.2.1].Var;(O->(O->Q (6,()) () H)/\(¬O->Q (0,()) () H))/\(¬O->x1.2.2.1+1<=2^63-1/\∃m1,m1<n1/\V1 m1 (decide O,(x1.2.1.1,x1.2.1.2.1,()),x1.2.2.1+1,()) H))/\(¬x1.2.2.1<σ I->x.2.1+1<=2^63-1/\∃m,m<n/\V m (x1.1,x.2.1+1,()) H)))/\(¬x.2.1<σ l->(x.1->Q (6,()) () H)/\(¬x.1->Q (0,()) () H)))
end
section
def E7(l:List CT):B.Fn:=λa=>l.all λt=>a t.Var==t.YP
variable {l:List CT}
theorem HV{a:B.As}:E7 l a=τ↔∀t∈l,a t.Var=t.YP:=by grind[E7]
theorem Ahj{m:List CT}(h:l.Perm m):E7 l=E7 m:=by funext a;rw[bq,HV,HV];grind
theorem XQ{b:Nat}{M:Mn}{H:HY}{X:PX}{Q:Int×Unit->UU}(P:JI H b M)(U:MI M)(N:∀t∈l,0<=t.Var/\t.Var<M.S.n)(S:(l.map (·.Var)).Nodup)(h:Q (0,()) () H):qK 143 Nq (ν b,l,()) H Q X:=by
 refine wF Tryz.f143 {lp:=[(12,⟨[(7,.one (.dat .bool)),(9,.blk [.dat I6,.dat .bool]),(40,.nat)],[1,29,30,31,38,39],τ⟩),(9,⟨[(7,.one (.dat .bool)),(31,.nat)],[1,29,30],τ⟩),(2,⟨[(14,.nat)],[0,1,12,13],τ⟩)],hd:=[(4,[6])]} (?_:RH (ν b) l H Q X);unfold RH;refine λ_=>⟨λn z D=>D=H/\n=σ l-z.1/\z.1<=σ l,⟨_,rfl,rfl,ag _⟩,?_⟩
 rintro n ⟨k,_⟩ D ⟨rfl,x,A⟩;have Y:n=σ l-k:=x;have hk:k<=σ l:=A;refine⟨λp y=>?_,λp _=>?_⟩
 .have i:k<σ l:=p;have y:k<=9223372036854775807:=y;have W:=N l[k] (ai i);refine⟨i,λg=>?_,λ_=>MS P U ⟨λs=>?_,λ_=>⟨by show k+1<=_;omega,σ l-(k+1),by omega,rfl,rfl,by show k+1<=_;omega⟩⟩⟩
  .have g:l[k].Var<0:=g;omega
  .have s:M.S.n<=l[k].Var:=s;omega
 .refine⟨λn z m=>m=D/\n=σ l-z.2.1/\z.2.1<=σ l/\z.1=ψ,⟨_,rfl,rfl,ag _,rfl⟩,?_⟩;rintro T ⟨B,q,_⟩ m ⟨rfl,u,F,a⟩;have u:T=σ l-q:=u;have J:q<=σ l:=F;have a:B=ψ:=a;subst a;refine⟨λC y=>?_,λ_=>⟨λR=>(by cases R),λ_=>h⟩⟩;have d:q<σ l:=C;have y:q<=9223372036854775807:=y;refine⟨d,ag _,J,λ_=>⟨λn z G=>G=m/\n=q-z.2.2.1/\z.2.2.1<=q/\z.1=ψ/\z.2.1.1=l[q].Var,⟨_,rfl,rfl,ag _,rfl,rfl⟩,?_⟩⟩;rintro K ⟨B,⟨O,Z,_⟩,j,_⟩ G ⟨rfl,w,E,a,o⟩;have w:K=q-j:=w;have hj:j<=q:=E;have a:B=ψ:=a;have o:O=l[q].Var:=o;subst a o;have I:σ (cp (q-0) (co 0 l))=q:=by simp;omega
  refine⟨λc r=>?_,λc=>?_⟩
  .have V:j<q:=by grind
   have r:j<=9223372036854775807:=r;have v:l[q].Var≠l[j].Var:=λe=>by
    have L:(l.map (·.Var))[q]'(by simpa using d)=(l.map (·.Var))[j]'(by grind):=by grind
    grind[av]
   have f:(cp (q-0) (co 0 l))[j]'(by omega)=l[j]:=by simp
   refine⟨c,λe=>?_,λ_=>⟨by grind,q-(j+1),by omega,rfl,rfl,by grind,?_,rfl⟩⟩;all_goals grind
  .exact⟨by grind,σ l-(q+1),by omega,rfl,rfl,by grind,rfl⟩
def Sq(lv:Int->Int)(s:List CT)(j:Nat):Int:=match s[j]? with
 |some t=>lv t.Var
 |none=>0
variable {lv:Int->Int} {s:List CT}
theorem GD{j:Nat}(h:j<σ s):Sq lv s j=lv s[j].Var:=by unfold Sq;rw[a7 h]
variable {k:Nat}
theorem Aps(b:0<k)(h:k<σ s)(j:Nat):Sq lv ((s.set (k-1) s[k]).set k (s[k-1]'(by omega))) j=if j=k then Sq lv s (k-1) else if j=k-1 then Sq lv s k else Sq lv s j:=by grind[Sq]
def Srt(lv:Int->Int)(s:List CT)(i:Nat)(k:Nat):Prop:=(∀a b,a<b->b<i->a≠k->b≠k->Sq lv s b<=Sq lv s a)/\∀b,k<b->b<i->Sq lv s b<=Sq lv s k
theorem Srt.done{i:Nat}(h:Srt lv s (i+1) k)(l:k<=i)(f:k=0∨Sq lv s k<=Sq lv s (k-1)):∀a b,a<b->b<i+1->Sq lv s b<=Sq lv s a:=λa b c j=>by
 by_cases g:a=k
 .subst g;exact h.2 b c j
 .by_cases d:b=k
  .subst d;rcases f with f|f
   .omega
   .by_cases e:a=b-1
    .grind
    .exact cq f (h.1 a (b-1) (by omega) (by omega) g (by omega))
  .exact h.1 a b c j g d
theorem Srt.step{i:Nat}(h:Srt lv s (i+1) k)(o:0<k)(q:k<=i)(p:i<σ s)(j:Sq lv s (k-1)<Sq lv s k):Srt lv ((s.set (k-1) (s[k]'(by omega))).set k (s[k-1]'(by omega))) (i+1) (k-1):=by
 have d:=Aps (lv:=lv) (s:=s) o (by omega:k<σ s);refine⟨λa b l e m g=>?_,λb n e=>?_⟩
 .rw[d,d];by_cases c:b=k
  .rw[UV c,GT (by omega),GT m];exact h.1 a (k-1) (by omega) (by omega) (by omega) (by omega)
  .rw[GT c,GT g];by_cases f:a=k
   .rw[UV f];exact h.1 (k-1) b (by omega) e (by omega) c
   .rw[GT f,GT m];exact h.1 a b l e f c
 .rw[d,d,GT (by omega:k-1≠k),UV rfl];by_cases c:b=k
  .omega
  .rw[GT c,GT (by omega)];exact h.2 b (by omega) e
end
theorem Aq3{n:Int}{l:List CT}(e:∀t∈l,0<=t.Var/\t.Var<n):B.RD n (E7 l):=λa b d=>by rw[bq,HV,HV];grind
theorem Ame{lv:Int->Int}{s:List CT}{j:Nat}(u:(s.map (·.Var)).Nodup)(f:j<σ s)(k:∀a b,a<b->b<σ s->Sq lv s b<Sq lv s a):B.S3 lv (lv s[j].Var) (E7 s) (E7 (s.take (j+1))):=by
 classical
 let b:=λv=>ω (∃t∈s,t.Var=v/\t.YP=τ);have r:∀t∈s,b _=t.YP:=λt d=>by
  show decide _=t.YP;cases m:t.YP with
  |true=>exact decide_eq_true ⟨t,d,rfl,m⟩
  |false=>
   refine decide_eq_false λ⟨w,l,e,i⟩=>?_;obtain⟨p,n,rfl⟩:=ae.1 d;obtain⟨q,c,rfl⟩:=ae.1 l;have:(s.map (·.Var))[q]'(by simpa using c)=(s.map (·.Var))[p]'(by simpa using n):=by simpa using e
   have:=(av u).1 this;subst this;rw[m]at i;cases i
 refine⟨ψ,b,λa=>?_⟩;rw[Bool.false_xor,bq,HV,HV];constructor
 .intro h t d;obtain⟨q,c,rfl⟩:=ae.1 d;unfold B.mix;by_cases o:q<j+1
  .rw[GT]
   .exact h _ (bg.2 ⟨q,by omega,rfl⟩)
   .by_cases e:q=j
    .subst e;omega
    .have:=k q j (by omega) f;rw[GD c,GD f]at this;omega
  .rw[UV]
   .exact r _ (ai c)
   .have:=k j q (by omega) c;rw[GD c,GD f]at this;exact this
 .intro h t d;obtain⟨q,c,rfl⟩:=bg.1 d;have g:q<σ s:=by omega
  have:=h _ (ai g);unfold B.mix at this;rw[GT]at this
  .exact this
  .by_cases e:q=j
   .subst e;omega
   .have:=k q j (by omega) f;rw[GD g,GD f]at this;omega
theorem Ahi{s:List CT}{j:Nat}(b:j<σ s){F:B.Fn}(hF:F=E7 (s.take j)):(λa:B.As=>if a s[j].Var=τ then (if s[j].YP=τ then F a else ψ) else (if s[j].YP=τ then ψ else F a))=E7 (s.take (j+1)):=by subst hF;funext a;rw[a8 b];unfold E7;rw[List.all_append];simp;cases a _<;>cases s[j].YP<;>simp
theorem Ae2{b:Nat}{M:Mn}{l:List CT}{H:HY}{X:PX}{Q:Int×Int×Unit->UU}(hM:MG H b M)(hn:M.nx<576460752303423487)(hl:σ M.hs<=60000)(hlen:σ l<=1000)(hv:∀t∈l,0<=t.Var/\t.Var<M.S.n)(hd:(l.map (·.Var)).Nodup)(hq:∀M' H',MG H' b M'->New M M' (E7 l)->JG b M H H'->Q (M.nx,0,()) () H'):qK 71 Ol (ν b,l,()) H Q X:=by
 refine wF Tryz.f71 {im:=[3]} (?_:((ν b)=δ->Q (0,5,()) () H)/\(¬(ν b)=δ->qK 143 Nq ((ν b),l,()) H (λ(c:qV)_ G=>(¬c.1=0->Q (0,c.1,()) () G)/\(¬¬c.1=0->qK 125 GW ((ν b),λ(a:Option Nat×UT)(H:HY)(Q:qV->HP)(X:Nat->Lf Y0.D->HP)=>qK 144 Oj (a.1,l,()) H (λ(c:qV)(x:UT)(G:HY)=>Q (c.1,()) G) X,()) G (λ(c:Int×qV)_ G=>Q (c.1,c.2.1,()) () G) X)) X));refine⟨λh=>qG h (by simp),λ_=>XQ hM.h hM.i hv hd ⟨λh=>qG rfl h,λ_=>?_⟩⟩;refine NF (Fs:=[E7 l]) (F:=E7 l) hM hn hl (by simp) (λF hF=>?_) ?_ hq
 .grind[aa,Aq3]
 intro d H1 c X' Q' cx iI iV kp fr hpan hfin;apply Ab2;unfold TX;have nn:d.S.n=M.S.n:=kp.n;have e0:([]++l:List CT)=l:=rfl;refine⟨by omega,λ_=>⟨λn z H'=>H'=H1/\z.1.Perm l/\∃i:Nat,z.2.1=i/\i<=σ l/\n=σ l-i/\∀a b,a<b->b<i->Sq d.lv z.1 b<=Sq d.lv z.1 a,⟨_,rfl,List.Perm.refl _,0,rfl,ag _,rfl,λa b _ hb=>qG hb (ck b)⟩,?_⟩⟩;rintro n ⟨s,i0,_⟩ H' ⟨rfl,L,i,T,Y,hn0,hs⟩;have L:s.Perm l:=L;have T:i0=(i:Int):=T;have hs:∀a b,a<b->b<i->Sq d.lv s b<=Sq d.lv s a:=hs;subst T;have hsl:σ s=σ l:=L.length_eq;refine⟨λy=>?_,λy _=>?_⟩
 .have P:i<σ l:=by grind
  refine⟨λn1 z w=>w=H'/\z.1.Perm l/\∃k:Nat,z.2.1=k/\k<=i/\n1=k/\Srt d.lv z.1 (i+1) k,⟨i,rfl,L,i,rfl,aq _,rfl,λa b hab hb ha hbk=>hs a b hab (by omega),λb h1 h2=>by omega⟩,?_⟩;rintro n1 ⟨u,k0,_⟩ w ⟨rfl,C,k,U,hk,hn1,hS⟩;have C:u.Perm l:=C;have U:k0=(k:Int):=U;have hS:Srt d.lv u (i+1) k:=hS;subst U;have hsl1:σ u=σ l:=C.length_eq;have nxt:(k=0∨Sq d.lv u k<=Sq d.lv u (k-1))->Bl .i64 (i:Int)->Bl .i64 ((i:Int)+1)/\∃m,m<n/\(w=w/\u.Perm l/\∃i':Nat,(i:Int)+1=i'/\i'<=σ l/\m=σ l-i'/\∀a b,a<b->b<i'->Sq d.lv u b<=Sq d.lv u a):=λh0 _=>
   ⟨Aq.2 (by omega),σ l-(i+1),by omega,rfl,C,i+1,rfl,by omega,rfl,hS.done hk h0⟩
  refine⟨λG _=>?_,λG=>Qb (nxt (.inl ?_))⟩
  .have hkp':0<k:=by have G:(0:Int)<(k:Int):=G;omega
   have f:k<σ u:=by omega
   have g:k-1<σ u:=by omega
   have t1:((k:Int)-1).toNat=k-1:=by omega
   have t0:((k:Int)).toNat=k:=by omega
   have ik:Bl .i64 ((k:Int)-1):=Aq.2 (by omega);have ek:(k:Int)-1=((k-1:Nat):Int):=by omega
   have sw:DW d.S.lv (u[k-1]'g).Var<DW d.S.lv (u[k]'f).Var->Bl .i64 (k:Int)->Bl .i64 ((k:Int)-1)/\∃m,m<n1/\(w=w/\((u.set (k-1) (u[k]'f)).set k (u[k-1]'g)).Perm l/\∃k':Nat,(k:Int)-1=k'/\k'<=i/\m=k'/\Srt d.lv ((u.set (k-1) (u[k]'f)).set k (u[k-1]'g)) (i+1) k'):=λE _=>
    ⟨ik,k-1,by rw[hn1];omega,rfl,(List.set_set_perm g f).trans C,k-1,ek,cb (Nat.sub_le k 1) hk,rfl,hS.step hkp' hk (by show i<σ u;omega) (by rw[GD f,GD g];exact E)⟩
   have no:¬DW d.S.lv (u[k-1]'g).Var<DW d.S.lv (u[k]'f).Var->k=0∨Sq d.lv u k<=Sq d.lv u (k-1):=λh=>.inr (by rw[GD f,GD g];exact Int.not_lt.1 h);simp only[t0,t1,List.length_set];refine⟨ik,λ_=>⟨λ_=>by omega,g,g,λ_=>⟨λ_=>by omega,f,Hv cx ⟨f,Hv cx ⟨λE _=>⟨ik,λ_=>⟨λ_=>by omega,f,f,λ_=>⟨ik,λ_=>⟨λ_=>by omega,g,g,λ_=>⟨λ_=>by omega,g,g,λ_=>⟨λ_=>by omega,f,f,sw E⟩⟩⟩⟩⟩⟩,λV=>nxt (no V)⟩⟩,f,Hv cx (Hv cx ⟨λE _=>⟨ik,λ_=>⟨λ_=>by omega,f,f,λ_=>⟨ik,λ_=>⟨λ_=>by omega,g,g,λ_=>⟨λ_=>by omega,g,g,λ_=>⟨λ_=>by omega,f,f,sw E⟩⟩⟩⟩⟩⟩,λV=>nxt (no V)⟩)⟩⟩⟩
  omega
 .have P:i=σ l:=by have y:¬(i:Int)<(σ l:Int):=y;omega
  subst P;have hd':(s.map (·.Var)).Nodup:=(L.map _).nodup_iff.2 hd;have Z:∀t∈s,0<=t.Var/\t.Var<d.S.n:=λt ht=>by rw[nn];exact hv t (L.mem_iff.1 ht)
  have hst:∀a b,a<b->b<σ s->Sq d.lv s b<Sq d.lv s a:=λa b hab hb=>by
   have h1:=hs a b hab (by omega);rw[GD hb,GD (by omega:a<σ s)]at h1 ⊢;have hne:d.lv s[b].Var≠d.lv (s[a]'(by omega)).Var:=λe=>by
    have va:=Z _ (ai (by omega:a<σ s));have vb:=Z _ (ai hb);have:=iI.si.BN.od.inj _ _ vb.1 vb.2 va.1 va.2 e;have h2:(s.map (·.Var))[b]'(by simpa using hb)=(s.map (·.Var))[a]'(by simp;omega):=by simpa using this
    have:=(av hd').1 h2;omega
   omega
  have hF:E7 s=E7 l:=Ahj L;refine⟨λn z w=>z.2.1=s/\n=σ s-z.2.2.1/\z.2.2.1<=σ s/\∃o,NR w c b o/\NQ d o/\Rm d o [E7 l]/\Kr b d H' w/\o.ws=d.ws/\o.At (match s[z.2.2.1-1]? with|some t=>if z.2.2.1=0 then o.S.n else o.lv t.Var|none=>o.S.n) z.1/\B.den o.T z.1=E7 (s.take z.2.2.1),⟨_,rfl,rfl,ag _,d,cx,NQ.refl iI.si iV,Rm.refl,Kr.refl,rfl,?_,?_⟩,?_⟩
  .have:(match s[0-1]? with|some t=>if (0:Nat)=0 then d.S.n else d.lv t.Var|none=>d.S.n)=d.S.n:=by split<;>rfl
   show d.At (match s[0-1]? with|some t=>if (0:Nat)=0 then d.S.n else d.lv t.Var|none=>d.S.n) 0;rw[this];exact Wq (bz _)
  .show B.den d.T 0=E7 (s.take 0);rw[B.JB];funext a;rfl
  rintro n2 ⟨r,p,j,_⟩ H2 ⟨e2,hn2,hj0,o,cx2,v,I,f2,w2,a2,d2⟩;have e2:p=s:=e2;subst e2;have hn2:n2=σ p-j:=hn2;have hj:j<=σ p:=hj0;replace a2:=a2;replace d2:B.den o.T r=E7 (p.take j):=d2;obtain⟨i2,kp2⟩:=v.kp iI (by rw[w2];exact aq _);refine⟨λhjl _=>?_,λhjl=>?_⟩
  .have q:j<σ p:=hjl;have hv2:=Z _ (ai q);have S:0<=p[j].Var/\p[j].Var<o.S.n:=by rw[v.n];exact hv2
   have D:=(i2.si.BN.od.N7 _ S.1 S.2).2;have hlow:o.lv p[j].Var+1<=(match p[j-1]? with|some t=>if j=0 then o.S.n else o.lv t.Var|none=>o.S.n):=by
    by_cases h0:j=0
    .subst h0;split
     .exact D
     .exact D
    .have hj1:j-1<σ p:=by omega
     rw[a7 hj1];simp only[h0,if_false];have:=hst (j-1) j (by omega) q;rw[GD q,GD hj1]at this;rw[v.lv];omega
   have hAt:o.At (o.lv p[j].Var+1) r:=⟨a2.1,cq hlow a2.2⟩
   have O:o.At (o.lv p[j].Var+1) 1:=at_one D;have key:∀lo Y:Int,((p[j].YP=τ/\lo=1/\Y=r)∨(¬p[j].YP=τ/\lo=r/\Y=1))->qK 127 DF (ν c,p[j].Var,lo,Y,()) H2 (λ(b_1:Int×Unit)(_:Unit)(H3:HY)=>j+1<=9223372036854775807/\∃m,m<n2/\(p=p/\m=σ p-(j+1)/\j+1<=σ p/\∃x,NR H3 c b x/\NQ d x/\Rm d x [E7 l]/\Kr b d H' H3/\x.ws=d.ws/\x.At (match p[(j+1)-1]? with|some t=>if j+1=0 then x.S.n else x.lv t.Var|none=>x.S.n) b_1.1/\B.den x.T b_1.1=E7 (p.take (j+1)))) X':=λlo Y hc=>by
    have R:(λa:B.As=>if a p[j].Var=τ then B.den o.T Y a else B.den o.T lo a)=E7 (p.take (j+1)):=by
     rw[<-Ahi q d2];funext a;rcases hc with ⟨J,rfl,rfl⟩|⟨J,rfl,rfl⟩
     .simp only[J,if_true];rw[B.Fw]
     .have J:p[j].YP=ψ:=by simpa using J
      simp only[J];rw[B.Fw];simp
    have N:o.At (o.lv p[j].Var+1) lo/\o.At (o.lv p[j].Var+1) Y:=by
     rcases hc with ⟨_,rfl,rfl⟩|⟨_,rfl,rfl⟩
     .exact⟨O,hAt⟩
     .exact⟨hAt,O⟩
    refine UW (F:=E7 l) cx2 i2.si v.mv S N.1 N.2 ?_ (λx H3 lf W K A f3 L=>?_) λe x H3 W K A f3 w3 a3 d3=>⟨by show j+1<=_;omega,σ p-(j+1),by omega,rfl,rfl,by omega,x,W,v.trans K,I.trans (A.l (aa.2 rfl)),f2.trans f3 v.bs,w3.trans w2,?_,?_⟩
    .rw[R,<-hF,v.lv];exact Ame hd' q hst
    .exact hpan x H3 lf W (v.trans K) (I.trans (A.l (aa.2 rfl))) (f2.trans f3 v.bs) (L.step w2)
    .rw[Nat.add_sub_cancel,a7 q];simp only[Nat.succ_ne_zero,if_false];rw[K.lv];exact a3
    .exact d3.trans R
   exact⟨q,q,λJ=>key 1 r (.inl ⟨J,rfl,rfl⟩),λJ=>key r 1 (.inr ⟨J,rfl,rfl⟩)⟩
  .have q:¬j<σ p:=hjl;have:j=σ p:=by omega
   subst this;rw[cj]at d2;exact hfin r o H2 cx2 v I f2 w2 a2.1 (d2.trans hF)
section
set_option maxRecDepth 100000
set_option maxHeartbeats 2000000
def Vb(w:Option Nat)(h e:Int)(H:HY)(Q:qV->UU)(X:PX):=∃(b:Nat),w=ν b/\∃(x:Am),H b=ν (Ob.st Co x)/\(¬x.e=0->(e=0->{x with l:={Aa:=x.l.Aa,Bits:=x.l.Bits,At:=x.l.At:Ae}}=x/\qK 110 Em (x.m,[h],()) H (λ(_:qV)_ G=>Q (0,()) () G) X)/\(¬e=0->{x with l:={Aa:=x.l.Aa,Bits:=x.l.Bits,At:=x.l.At:Ae}}=x/\Q (0,()) () H))/\(¬¬x.e=0->(¬e=0->Q (0,()) () (Ac H b (Ob.st Co {x with l:={Aa:=x.l.Aa,Bits:=x.l.Bits,At:=x.l.At:Ae},e:=e})))/\(¬¬e=0->Q (h,()) () (Ac H b (Ob.st Co {x with l:={Aa:=x.l.Aa,Bits:=x.l.Bits,At:=x.l.At:Ae},live:=C4 x.live h τ,e:=e}))))
theorem UZ w h e H Q X(h_:Vb w h e H Q X):qK 54 Bo (w,h,e,()) H Q X:=wF Tryz.f54 {} h_
def Qu(v:Al)(H:HY)(Q:Int×qV->UU)(_:PX):=(v.Bool->Q (0,1,()) () H)/\(¬v.Bool->Q (v.Lo,v.Hi,()) () H)
theorem XY v H Q X(h_:Qu v H Q X):qK 133 Fp (v,()) H Q X:=wF Tryz.f133 {im:=[1]} h_
end
section
structure WK(H:HY)(wb b:Nat)(M0 M:Mn)(L:Ae)(lv:List (Int×Bool)):Prop where
 ob:H wb=ν (.st Co ({m:=ν b,l:=L,live:=lv,e:=0}:Am))
 mg:MG H b M
 bs:DD M0 M
 n0:2<=M0.nx
 nx:M0.nx<=M.nx
 nd:Pc lv
 tr:∀p∈lv,p.2=τ
 lo:∀h,h<M0.nx->M.Ar h=M0.Ar h/\Ag lv h=δ
 hi:∀h,M0.nx<=h->((Ag lv h).isSome=τ↔M.Ar h≠δ)
 ln:σ M.hs=σ M0.hs+σ lv
def Sz(wb b:Nat)(M:Mn)(H H':HY):Prop:=∀c,H c≠δ->c≠wb->G5 b M c->H' c=H c
variable {wb b:Nat} {M:Mn} {H:HY}
theorem Sz.refl:Sz wb b M H H:=λ_ _ _ _=>rfl
variable {H':HY}
theorem Sz.trans{H'':HY}(h:Sz wb b M H H')(k:Sz wb b M H' H''):Sz wb b M H H'':=λc d a f=>by have e:=h c d a f;rw[k c (by grind) a f,e]
theorem JG.w(f:JG b M H H'):Sz wb b M H H':=λ_ a _ n=>f.at a n
theorem Sz.same{wb b:Nat}{M M':Mn}{H H':HY}(f:Sz wb b M' H H')(e:DD M M'):Sz wb b M H H':=λc d a n=>f c d a (n.same e)
variable {c:Nat} {M':Mn}
theorem G5.back(h:G5 b M' c)(e:DD M M'):G5 b M c:=⟨h.b,by rw[<-e.mb];exact h.mb,by rw[<-e.sb];exact h.sb,by rw[<-e.bl];exact h.bl,by rw[<-e.bp];exact h.bp,by rw[<-e.tb];exact h.tb⟩
theorem MG.notM{m:Nat}{x:Y0.O m}(h:MG H b M)(a:H c=ν (.st m x))(f:m≠CW)(n:m≠CC)(l:m≠AD)(k:m≠CR)(g:m≠Da)(j:m≠Cy):G5 b M c:=by refine⟨Bk a h.h.ob f,Bk a h.h.me n,Bk a h.h.st.st l,Bk a h.h.st.lv k,Bk a h.h.st.po g,λd=>?_⟩;obtain⟨v,i,e⟩:=ae.1 d;exact Bk a (h.h.st.ta v i) j e.symm
theorem MG.set{m:Nat}{x:Y0.O m}{y:Ob Y0}(h:MG H b M)(a:H c=ν (.st m x))(n:G5 b M c):MG (Ac H c y) b M:=⟨h.h.other n a,h.i,h.v,h.e,h.n8,h.rm⟩
variable {M0:Mn} {L:Ae} {lv:List (Int×Bool)}
theorem WK.wn(h:WK H wb b M0 M L lv):G5 b M wb:=h.mg.notM h.ob (by decide) (by decide) (by decide) (by decide) (by decide) (by decide)
theorem WK.live(h:WK H wb b M0 M L lv){g:Int}(a:(Ag lv g).isSome=τ):M0.nx<=g/\g<M.nx/\1<g/\∃F,M.Ar g=ν F:=by
 have c:M0.nx<=g:=by refine am λj=>?_;rw[(h.lo g (by omega)).2]at a;cases a
 have i:=(h.hi g c).1 a;cases e:M.Ar g with
 |none=>grind
 |some F=>
  obtain⟨x,f,_⟩:=Mn.Gj e;have d:=h.mg.i.ok g x f;refine⟨c,d.2.2,?_,F,rfl⟩;have:=h.n0;omega
theorem Vl{F:B.Fn}{X:PX}{Q:Int×Unit->UU}(w:WK H wb b M0 M L lv)(g:MG H' b M')(d:New M M' F)(f:JG b M H H')(h:∀H'',WK H'' wb b M0 M' L (C4 lv M.nx τ)->Ag lv M.nx=δ->Sz wb b M H H''->Q (M.nx,()) () H''):qK 54 Bo (ν wb,M.nx,0,()) H' Q X:=by
 refine UZ _ _ _ _ _ _ ?_;have j:H' wb=ν (.st Co {m:=ν b,l:=L,live:=lv,e:=0}):=by rw[f.at (by rw[w.ob];simp) w.wn];exact w.ob
 have a:Ag lv M.nx=δ:=by
  cases e:Ag lv _ with
  |none=>rfl
  |some t=>
   have s:=(w.hi _ w.nx).1 (by grind);refine qG (Mn.ND.2 ?_) s;cases q:Ag M.hs _ with
   |none=>rfl
   |some x=>have:=(w.mg.i.ok _ _ q).2.2;omega
 refine⟨wb,rfl,_,j,λh=>qG rfl h,λ_=>⟨λh=>qG rfl h,λ_=>?_⟩⟩;have o:=w.wn.same d.bs;refine h _ ⟨Ah _ _ _,g.set j o,w.bs.trans d.bs,w.n0,by rw[d.nx];have:=w.nx;omega,K8 w.nd _ _,λp u=>(Xj u).elim (w.tr p) id,λk n=>?_,λk n=>?_,?_⟩ a (f.w.trans λc _ r _=>Ad _ _ r)
 .have i:k≠M.nx:=by have:=w.nx;omega
  rw[d.Ar,GT i,Cw,GT i];exact w.lo k n
 .rw[d.Ar,Cw];split
  .simp
  .exact w.hi k n
 .rw[d.ln,Ml a,w.ln];omega
theorem WK.gone{g:Int}(w:WK H wb b M0 M L lv)(j:(Ag lv g).isSome=τ)(g':MG H' b M')(d:A4n M M' g)(n:H' wb=ν (.st Co ({m:=ν b,l:=L,live:=Dl lv g,e:=0}:Am))):WK H' wb b M0 M' L (Dl lv g)/\σ (Dl lv g)+1=σ lv:=by
 have s:=w.live j;have a:∀{m:List (Int×Bool)},(Ag m g).isSome=τ->σ (Dl m g)+1=σ m:=by
  intro m;induction m with
  |nil=>intro h;cases h
  |cons p m o=>
   intro h;unfold Dl;split;all_goals simp_all[Ag]
 have r:∀{m:List _}{p:Int×Bool},p∈Dl m g->p∈m:=by
  intro m;induction m with
  |nil=>intro p h;exact h
  |cons q m o=>
   grind[Dl]
 refine⟨⟨n,g',w.bs.trans d.bs,w.n0,by rw[d.nx];omega,T4 w.nd _,λp f=>w.tr p (r f),λk i=>?_,λk i=>?_,?_⟩,a j⟩
 .have c:k≠g:=by omega
  rw[d.Ar,GT c,Jd w.nd,GT c];exact w.lo k i
 .rw[d.Ar,Jd w.nd];split
  .simp
  .exact w.hi k i
 .have:=d.ln;have:=a j;have:=w.ln;omega
theorem SJ{l:List Int}{X:PX}{Q:Unit->UU}(w:WK H wb b M0 M L lv)(hn:M.nx<576460752303423487)(hll:σ l<=1000000)(h:∀M' lv' H',WK H' wb b M0 M' L lv'->M'.nx=M.nx->(∀k,Ag lv' k=if k∈l then δ else Ag lv k)->(∀k,M'.Ar k=if k∈l/\(Ag lv k).isSome=τ then δ else M.Ar k)->σ lv'<=σ lv->(l.Nodup->(∀k∈l,(Ag lv k).isSome=τ)->σ lv'+σ l=σ lv)->Sz wb b M H H'->Q () () H'):qK 128 AI (ν wb,l,()) H Q X:=by
 refine wF Tryz.f128 {lp:=[(1,⟨[(8,.nat)],[0,6,7],τ⟩)]} (?_:σ l<=2^63-1->∃(V:Nat->Nat×UT->HP),(∃(n:Nat),V n (0,()) H)/\∀n x H,V n x H->(x.1<σ l->x.1<=2^63-1->∃(h:x.1<σ l),letI E:=l[x.1];letI F:=x.1+1;∃(b:Nat),(ν wb)=ν b/\∃(x1:Am),letI I:=(Ag x1.live E).getD ψ=τ;H b=ν (Ob.st Co x1)/\(I->qK 110 Em (x1.m,[E],()) (Ac H b (Ob.st Co {x1 with live:=Dl x1.live E})) (λ(b:qV)_ G=>F<=2^63-1/\∃m,m<n/\V m (F,()) G) X)/\(¬I->F<=2^63-1/\∃m,m<n/\x1=x1/\V m (F,()) H))/\(¬x.1<σ l->Q () () H));refine λ_=>⟨λn z H'=>n=σ l-z.1/\z.1<=σ l/\∃M' lv',WK H' wb b M0 M' L lv'/\DD M M'/\M'.nx=M.nx/\(∀k,Ag lv' k=if k∈l.take z.1 then δ else Ag lv k)/\(∀k,M'.Ar k=if k∈l.take z.1/\(Ag lv k).isSome=τ then δ else M.Ar k)/\σ lv'<=σ lv/\(l.Nodup->(∀k∈l,(Ag lv k).isSome=τ)->σ lv'+z.1=σ lv)/\Sz wb b M H H',⟨_,rfl,ag _,M,lv,w,.refl,rfl,λk=>by simp,λk=>by simp,aq _,λ_ _=>rfl,Sz.refl⟩,?_⟩
 rintro n ⟨j,_⟩ H' ⟨G,I,M',lv',o,P,R,s,C,J,u,f⟩;have hnj:=G;have hj:=I;replace s:=s;replace C:=C;replace u:=u;refine⟨λA _=>?_,λA=>?_⟩
 .have i:=A;have p:∀k,k∈l.take _↔k∈l.take j∨k=l[j]:=λk=>by rw[a8 i,ak,aa]
  refine⟨i,wb,rfl,_,o.ob,λd=>?_,λd=>⟨by show j+1<=_;omega,σ l-(j+1),by omega,rfl,rfl,by show j+1<=_;omega,M',lv',o,P,R,λk=>?_,λk=>?_,J,λx r=>?_,f⟩⟩
  .have d:=d;have D:(Ag lv' l[j]).isSome=τ:=by
    cases e:Ag lv' l[j] with
    |none=>rw[e]at d;cases d
    |some t=>rfl
   obtain⟨g1,g2,g3,F,hF⟩:=o.live D;refine T6  (o.mg.set o.ob o.wn) (by omega) g3 hF λZ H2 e S N U=>?_;have E:H2 wb=ν (.st Co {m:=ν b,l:=L,live:=Dl lv' l[j],e:=0}):=by rw[U.at (by rw[Ah];simp) o.wn,Ah]
   obtain⟨W,T⟩:=o.gone D S N E;have v:l[j]∉l.take j:=λa=>by have:=s l[j];rw[UV a]at this;rw[this]at D;cases D
   have O:(Ag lv l[j]).isSome=τ:=by have:=s l[j];rw[GT v]at this;rw[<-this];exact D
   refine⟨by show j+1<=_;omega,σ l-(j+1),by omega,rfl,by show j+1<=_;omega,Z,_,W,P.trans N.bs,N.nx.trans R,λk=>?_,λk=>?_,by omega,λx r=>?_,(f.trans λc _ a1 _=>Ad _ _ a1).trans (U.w.same P)⟩
   .show _=if k∈l.take (j+1) then δ else Ag lv k
    rw[Jd o.nd,s];by_cases g:k=l[j]
    .rw[UV g,UV ((p k).2 (.inr g))]
    .rw[GT g];by_cases a:k∈l.take j
     .rw[UV a,UV ((p k).2 (.inl a))]
     .rw[GT a,GT λh=>((p k).1 h).elim a g]
   .show _=if k∈l.take (j+1)/\(Ag lv k).isSome=τ then δ else M.Ar k
    rw[N.Ar,C];by_cases g:k=l[j]
    .rw[UV g,UV ⟨(p k).2 (.inr g),by rw[g];exact O⟩]
    .rw[GT g];by_cases a:k∈l.take j
     .have:=(p k).2 (.inl a);simp only[a,this]
     .have:¬k∈l.take (j+1):=λh=>((p k).1 h).elim a g;simp only[a,this]
   .have:=u x r;show σ (Dl lv' l[j])+(j+1)=σ lv;omega
  .have y:Ag lv' l[j]=δ:=by
    cases e:Ag lv' l[j] with
    |none=>rfl
    |some t=>
     have:=o.tr _ (Jw e);simp only at this;subst this;have d:=d;rw[e]at d;exact qG rfl d
   show _=if k∈l.take _ then δ else Ag lv k
   rw[s];by_cases g:k=l[j]
   .subst g;have:=s l[j];rw[y]at this;rw[UV ((p _).2 (.inr rfl)),<-this]
   .by_cases a:k∈l.take j
    .rw[UV a,UV ((p k).2 (.inl a))]
    .rw[GT a,GT λh=>((p k).1 h).elim a g]
  .have y:Ag lv' l[j]=δ:=by
    cases e:Ag lv' l[j] with
    |none=>rfl
    |some t=>
     have:=o.tr _ (Jw e);simp only at this;subst this;have d:=d;rw[e]at d;exact qG rfl d
   show _=if k∈l.take _/\(Ag lv k).isSome=τ then δ else M.Ar k
   rw[C];by_cases g:k=l[j]
   .subst g;have B:=s l[j];rw[y]at B;by_cases a:l[j]∈l.take j
    .have:=(p l[j]).2 (.inl a);simp only[a,this]
    .rw[GT a]at B;rw[GT (λh=>a h.1),GT (λh=>by rw[<-B]at h;cases h.2)]
   .by_cases a:k∈l.take j
    .have:=(p k).2 (.inl a);simp only[a,this]
    .have:¬k∈l.take _:=λh=>((p k).1 h).elim a g;simp only[a,this]
  .exfalso;have v:l[j]∉l.take j:=λa=>by obtain⟨q,Y,e⟩:=ae.1 a;rw[List.length_take]at Y;rw[List.getElem_take]at e;have:=(av x).1 e;omega
   have B:=s l[j];rw[GT v]at B;have V:=r l[j] (ai i);rw[<-B]at V;obtain⟨t,K⟩:=ap.1 V;have:=o.tr _ (Jw K);simp only at this;subst this;have d:=d;rw[K]at d;exact d rfl
 .have i:=A;have:j=σ l:=by omega
  subst this;rw[cj]at s C;exact h M' lv' H' o R s C J u f
end
section
structure Used(M M':Mn)(lv lv':List (Int×Bool))(l:List Int)(F:B.Fn):Prop where
 nx:M'.nx=M.nx+1
 get:∀k,Ag lv' k=if k=M.nx then ν τ else if k∈l then δ else Ag lv k
 Ar:∀k,M'.Ar k=if k=M.nx then ν F else if k∈l/\(Ag lv k).isSome=τ then δ else M.Ar k
 le:σ lv'<=σ lv+1
 len:l.Nodup->(∀k∈l,(Ag lv k).isSome=τ)->σ lv'+σ l=σ lv+1
variable {H:HY} {wb b:Nat} {M0 M:Mn} {L:Ae} {lv:List (Int×Bool)} {F:B.Fn}
theorem WK.lt(w:WK H wb b M0 M L lv){k:Int}(hF:M.Ar k=ν F):k<M.nx:=by obtain⟨e,a,_⟩:=Mn.Gj hF;exact(w.mg.i.ok k e a).2.2
theorem WK.nl(w:WK H wb b M0 M L lv){k:Int}(c:M.nx<=k):Ag lv k=δ/\M.Ar k=δ:=by
 have a:M.Ar k=δ:=by
  cases e:M.Ar k with
  |none=>rfl
  |some F=>have:=w.lt e;omega
 refine⟨?_,a⟩;cases e:Ag lv k with
 |none=>rfl
 |some t=>exact qG a ((w.hi k (by have:=w.nx;omega)).1 (by grind))
def DoS(b:Nat)(M:Mn)(H:HY)(l:List Int)(F:B.Fn)(L2:FT Y0 [.ptr,.sl I6] [.int .i64,.int .i64]):Prop:=∀(Q:Int×Int×Unit->HP)(X:PX),(∀M' H',MG H' b M'->New M M' F->JG b M H H'->Q (M.nx,0,()) H')->L2 (ν b,l,()) H Q X
variable {X:PX} {Q:Int×Unit->UU}
theorem Ph{L2:FT Y0 [.ptr,.sl I6] [.int .i64,.int .i64]}{l:List Int}(w:WK H wb b M0 M L lv)(J:M.nx<576460752303423486)(q:σ l<=1000000)(f:∀k∈l,k<M.nx)(m:DoS b M H l F L2)(h:∀M' lv' H',WK H' wb b M0 M' L lv'->DD M M'->Used M M' lv lv' l F->Sz wb b M H H'->Q (M.nx,()) () H'):qK 56 A6 (ν wb,L2,l,()) H Q X:=by
 refine wF Tryz.f56 {} (?_:∃(b:Nat),(ν wb)=ν b/\∃(x:Am),H b=ν (Ob.st Co x)/\(¬x.e=0->{x with l:={Aa:=x.l.Aa,Bits:=x.l.Bits,At:=x.l.At:Ae}}=x/\Q (0,()) () H)/\(¬¬x.e=0->{x with l:={Aa:=x.l.Aa,Bits:=x.l.Bits,At:=x.l.At:Ae}}=x/\L2 (x.m,l,()) H (λ(b:Int×qV)(G:HY)=>qK 54 Bo ((ν wb),b.1,b.2.1,()) G (λ(b:qV)_ G=>qK 128 AI ((ν wb),l,()) G (λ(b1 io:UT)(G:HY)=>Q (b.1,()) () G) X) X) X));refine⟨wb,rfl,_,w.ob,λh=>qG rfl h,λ_=>⟨rfl,m _ _ λK I C g u=>?_⟩⟩;refine Vl w C g u λN E e D=>?_;refine SJ E (by rw[g.nx];omega) q λx s y t n d c A o z=>?_;have v:σ (C4 lv M.nx τ)=σ lv+1:=Ml e;refine h x s y t ?_ ⟨n.trans g.nx,λk=>?_,λk=>?_,by omega,λr i=>?_⟩ (D.trans (z.same g.bs))
 .have d:=w.bs;have c:=t.bs;exact⟨c.sb.trans d.sb.symm,c.mb.trans d.mb.symm,c.bl.trans d.bl.symm,c.bp.trans d.bp.symm,c.tb.trans d.tb.symm⟩
 .grind[Cw]
 .rw[c,g.Ar,Cw];grind
 grind[Cw]
theorem KG{M':Mn}{H':HY}(w:WK H wb b M0 M L lv)(g:MG H' b M')(c:New M M' F)(f:JG b M H H')(h:∀lv' H'',WK H'' wb b M0 M' L lv'->DD M M'->Used M M' lv lv' [] F->Sz wb b M H H''->Q (M.nx,()) () H''):qK 54 Bo (ν wb,M.nx,0,()) H' Q X:=by
 refine Vl w g c f λH'' e a d=>h _ H'' e c.bs ⟨c.nx,λk=>?_,λk=>?_,by grind[Ml],λ_ _=>by grind[Ml]⟩ d
 .grind[Cw]
 .rw[c.Ar];simp
theorem Uo{yes:Bool}(w:WK H wb b M0 M L lv)(m:M.nx<576460752303423486)(h:∀M' lv' H',WK H' wb b M0 M' L lv'->DD M M'->Used M M' lv lv' [] (λ_=>yes)->Sz wb b M H H'->Q (M.nx,()) () H'):qK 59 Bu (ν wb,yes,()) H Q X:=by
 refine wF Tryz.f59 {} (?_:letI E:=λ(b:Int×qV)_ G=>qK 54 Bo ((ν wb),b.1,b.2.1,()) G (λ(b:qV)_ G=>Q (b.1,()) () G) X;∃(b:Nat),(ν wb)=ν b/\∃(x:Am),H b=ν (Ob.st Co x)/\(x=x/\qK 132 Bu (x.m,yes,()) H (λ(b:qV)_ G=>qK 131 Oh (x.m,b.1,()) G E X) X)/\x=x/\qK 132 Bu (x.m,yes,()) H (λ(b1:qV)_ G=>∃(x:Am),G b=ν (Ob.st Co x)/\x=x/\qK 131 Oh (x.m,b1.1,()) G E X) X);have k:M.Ar (if yes=τ then 1 else 0)=ν (λ_=>yes):=by
  cases yes
  .exact w.mg.i.Apr
  .exact w.mg.i.Awu
 have a:qK 131 Oh (ν b,(if yes=τ then 1 else 0),()) H (λ(c:Int×Int×Unit)_ H'=>qK 54 Bo (ν wb,c.1,c.2.1,()) H' (λ(b:Int×Unit)_ H'=>Q (b.1,()) () H') X) X:=
  Abj w.mg (by omega) k λM' H' g e f=>KG w g e f λlv' d l j u i=>h M' lv' d l j u i
 exact⟨wb,rfl,_,w.ob,⟨rfl,T7 a⟩,rfl,T7 ⟨_,w.ob,rfl,a⟩⟩
end
section
def Dj(l:List Int)(k:Nat):Int:=(l.take k).foldl (·+·) 0
theorem Ek{l:List Int}{k:Nat}(h:k<σ l):Dj l (k+1)=Dj l k+l[k]:=by unfold Dj;rw[a8 h,ce];rfl
structure LK(L:Ae):Prop where
 lb:σ L.Bits=σ L.Aa
 la:σ L.At=σ L.Aa
 ln:σ L.Aa<=64
 b0:∀i(h:i<σ L.Bits),0<=L.Bits[i]/\L.Bits[i]<=30
 at_:∀i(h:i<σ L.At),L.At[i]=Dj L.Bits i
variable {L:Ae}
theorem LK.sum(h:LK L):∀{k:Nat},k<=σ L.Bits->0<=Dj L.Bits k/\Dj L.Bits k<=30*k
 |0,_=>by simp [Dj]
 |k+1,a=>by have:=h.sum (k:=k) (by omega);have:=h.b0 k (by omega);grind[Ek]
theorem LK.Pq(h:LK L){j:Nat}:∀{k:Nat},j<=k->k<=σ L.Bits->Dj L.Bits j<=Dj L.Bits k
 |0,a,_=>by grind
 |k+1,a,b=>by
  by_cases e:j=k+1
  .grind
  .have:=h.Pq (j:=j) (k:=k) (by omega) (by omega);have:=h.b0 k (by omega);grind[Ek]
def Fy(L:Ae):Int:=Dj L.Bits (σ L.Bits)
variable {H:HY} {X:PX}
theorem Abx{Q:Int×Unit->UU}(f:LK L)(h:Q (Fy L,()) () H):qK 89 IQ (L,()) H Q X:=by
 refine wF Tryz.f89 {lp:=[(3,⟨[(3,.one (.dat I6)),(9,.nat)],[7,8],ψ⟩)],im:=[1]} (?_:letI E:=σ L.Bits;E<=2^63-1->∃(V:Nat->Int×Nat×UT->Prop),(∃(n:Nat),H=H/\V n (0,0,()))/\∀n x,V n x->(x.2.1<E->x.2.1<=2^63-1->∃(h:x.2.1<E),letI F:=L.Bits[x.2.1];IK x.1->IK F->IK (x.1+F)/\x.2.1+1<=2^63-1/\∃m,m<n/\H=H/\V m (x.1+F,x.2.1+1,()))/\(¬x.2.1<E->Q (x.1,()) () H));have i:=f.ln;have j:=f.lb;refine λ_=>⟨λn z=>n=σ L.Bits-z.2.1/\z.2.1<=σ L.Bits/\z.1=Dj L.Bits z.2.1,⟨_,rfl,rfl,ag _,rfl⟩,?_⟩
 rintro n ⟨s,k,_⟩ ⟨e,d,c⟩;have p:n=σ L.Bits-k:=e;have l:k<=σ L.Bits:=d;have g:s=Dj L.Bits k:=c;subst g;refine⟨λb _=>?_,λb=>?_⟩
 .have a:k<σ L.Bits:=b;have o:=f.sum l;have m:=f.b0 k a;exact⟨a,λ_ _=>⟨Aq.2 (by grind),by grind,σ L.Bits-(k+1),by omega,rfl,rfl,by grind,(Ek a).symm⟩⟩
 .have a:¬k<σ L.Bits:=b;have:k=σ L.Bits:=by omega
  subst this;exact h
def Ny(L:Ae)(i:Nat):List Int:=(ao ((L.Bits[i]?).getD 0).toNat).map λ(k:Nat)=>2*((L.At[i]?).getD 0+(k:Int))
variable {i:Nat}
theorem XF{Q:List Int×Unit->UU}(d:LK L)(hi:i<σ L.Aa)(h:Q (Ny L i,()) () H):qK 123 GB (L,(i:Int),()) H Q X:=by
 refine wF Tryz.f123 {lp:=[(5,⟨[(5,.one (.own I6)),(21,.nat)],[1,2,20],ψ⟩)],im:=[2]} (?_:letI E:=(i:Int).toNat;letI F:=IK (i:Int);letI I:=σ L.Bits;letI O:=Q ([],()) () H;((i:Int)<0->O)/\(¬(i:Int)<0->I<=2^63-1->((I:Int)<=(i:Int)->O)/\(¬(I:Int)<=(i:Int)->F->(F->0<=(i:Int))/\∃(h:E<I),∃(V:Nat->List Int×Nat×UT->Prop),(∃(n:Nat),H=H/\V n ([],0,()))/\∀n x,V n x->((x.2.1:Int)<L.Bits[E]->F->(F->0<=(i:Int))/\∃(h:E<σ L.At),letI P:=L.At[E]+(x.2.1:Int);IK L.At[E]->x.2.1<=2^63-1->IK P/\(IK P->IK (2*P)/\(σ x.1+σ [(2:Int)*P])*8<=2^47/\x.2.1+1<=2^63-1/\∃m,m<n/\H=H/\V m (x.1++[(2:Int)*P],x.2.1+1,())))/\(¬(x.2.1:Int)<L.Bits[E]->Q (x.1,()) () H))));have p:=d.ln;have b:i<σ L.Bits:=by rw[d.lb];exact hi
 have a:i<σ L.At:=by rw[d.la];exact hi
 have o:((i:Int)).toNat=i:=by omega
 have r:=d.b0 i b;have u:=d.at_ i a;have v:=d.sum (k:=i) (by omega);have f:Ny L i=(ao L.Bits[i].toNat).map λ(k:Nat)=>2*(L.At[i]+(k:Int)):=by grind[Ny]
 simp only[o];refine⟨λm=>by omega,λ_ _=>⟨λm=>?_,λ_ _=>⟨λ_=>by omega,b,λn z=>n=L.Bits[i].toNat-z.2.1/\z.2.1<=L.Bits[i].toNat/\z.1=(ao z.2.1).map λ(k:Nat)=>2*(L.At[i]+(k:Int)),⟨_,trivial,rfl,ag _,rfl⟩,?_⟩⟩⟩
 .omega
 rintro n ⟨s,k,_⟩ ⟨g,l,j⟩;have m:n=L.Bits[i].toNat-k:=g;have t:k<=L.Bits[i].toNat:=l;have q:s=(ao k).map λ(k:Nat)=>2*(L.At[i]+(k:Int)):=j;subst q;refine⟨λc _=>?_,λc=>?_⟩
 .have e:(k:Int)<L.Bits[i]:=c;refine⟨λ_=>by omega,a,λ_ _=>⟨Aq.2 (by omega),λ_=>⟨Aq.2 (by omega),?_,by omega,L.Bits[i].toNat-(k+1),by omega,trivial,rfl,by grind,?_⟩⟩⟩
  .grind
  .show (ao k).map _++[_]=(ao (k+1)).map _;rw[br,ah];rfl
 grind
theorem Xg(b:LK L)(hi:i<σ L.Aa):σ (Ny L i)<=30:=by
 have a:i<σ L.Bits:=by rw[b.lb];exact hi
 have:=b.b0 i a;grind[Ny]
theorem Xf(b:LK L)(hi:i<σ L.Aa){v:Int}(d:v∈Ny L i):0<=v/\v+1<2*Fy L/\v%2=0:=by
 have a:i<σ L.Bits:=by rw[b.lb];exact hi
 have c:i<σ L.At:=by rw[b.la];exact hi
 have h:=b.b0 i a;have g:=b.at_ i c;have l:=b.sum (k:=i) (by omega);have f:=b.Pq (j:=i+1) (k:=σ L.Bits) (by omega) (aq _);rw[Ek a]at f;unfold Ny at d;rw[a7 a,a7 c]at d;obtain⟨k,e,rfl⟩:=an.1 d;have e:=bx.1 e;simp only[aw]at e ⊢;unfold Fy;omega
theorem Vy{Q:List Int×Unit->UU}(c:LK L)(hi:i<σ L.Aa)(h:Q ((Ny L i).map (·+1),()) () H):qK 53 GB (L,(i:Int),()) H Q X:=by
 refine wF Tryz.f53 {lp:=[(3,⟨[(5,.one (.own I6)),(12,.nat)],[10,11],ψ⟩)],im:=[2]} (?_:qK 123 GB (L,(i:Int),()) H (λ(b:List Int×UT)_ G=>letI E:=σ b.1;E<=2^63-1->∃(V:Nat->List Int×Nat×UT->Prop),(∃(n:Nat),G=G/\V n ([],0,()))/\∀n x,V n x->(x.2.1<E->x.2.1<=2^63-1->∃(h:x.2.1<E),letI F:=b.1[x.2.1];IK F->IK (F+1)/\(σ x.1+σ [F+1])*8<=2^47/\x.2.1+1<=2^63-1/\∃m,m<n/\G=G/\V m (x.1++[F+1],x.2.1+1,()))/\(¬x.2.1<E->Q (x.1,()) () G)) X);refine XF c hi λ_=>?_;have l:=Xg c hi;have g:∀v∈Ny L i,0<=v/\v+1<2*Fy L/\v%2=0:=λv m=>Xf c hi m;have j:=(c.sum (aq _)).2;have q:=c.ln;have o:=c.lb;generalize Ny L i=V at *;refine⟨λn z=>n=σ V-z.2.1/\z.2.1<=σ V/\z.1=(V.take z.2.1).map (·+1),⟨_,rfl,rfl,ag _,rfl⟩,?_⟩;rintro n ⟨s,k,_⟩ ⟨f,e,d⟩;have r:n=σ V-k:=f;have u:k<=σ V:=e;have p:s=(V.take k).map (·+1):=d;subst p;refine⟨λb _=>?_,λb=>?_⟩
 .have a:k<σ V:=b;have t:=g V[k] (ai a);have w:Fy L<=1920:=by grind[Fy]
  refine⟨a,λ_=>⟨Aq.2 (by grind),?_,by grind,σ V-(k+1),by omega,rfl,rfl,by grind,?_⟩⟩
  .grind
  .show (V.take k).map (·+1)++[V[k]+1]=(V.take (k+1)).map (·+1);rw[a8 a,ah];rfl
 grind
end
section
set_option maxRecDepth 100000
set_option maxHeartbeats 2000000
def E6(yield:qV->HY->(qU->HP)->PX->Prop)(p1:Option Nat)(H:HY)(Q:UT->UU)(X:PX):=letI E:=Ty.int .i64;∃(b:Nat),p1=ν b/\∃(m:List (Int×Int)),letI F:=Ob.mp E E m;H b=ν F/\True/\∃(V:List (Int×Int)->UU),(True/\V m () (CI H b))/\∀(left:List (Int×Int))(x:UT)(H:HY),V left x H->(left=[]->Q () () (Ac H b F))/\∀(l1:List (Int×Int))(p:Int×Int)(l2:List (Int×Int)),left=l1++p::l2->yield (p.1,()) H (λ(b1:qU)(G:HY)=>(¬b1.1->Q () () (Ac G b F))/\(¬¬b1.1->True/\V (l1++l2) () G)) X
theorem Ji yield p1 H Q X(h_:E6 yield p1 H Q X):qK 139 AF (yield,p1,()) H Q X:=wFS Tryz.f139 {lp:=[(1,⟨[],[0,5],τ⟩)]} h_
def Ei(yield:qV->HY->(qU->HP)->PX->Prop)(p1:Option Nat)(H:HY)(Q:UT->UU)(X:PX):=letI E:=Ty.int .i64;∃(b:Nat),p1=ν b/\∃(m:List (Int×Int)),letI F:=Ob.mp E E m;H b=ν F/\True/\∃(V:List (Int×Int)->UU),(True/\V m () (CI H b))/\∀(left:List (Int×Int))(x:UT)(H:HY),V left x H->(left=[]->Q () () (Ac H b F))/\∀(l1:List (Int×Int))(p:Int×Int)(l2:List (Int×Int)),left=l1++p::l2->yield (p.2,()) H (λ(b1:qU)(G:HY)=>(¬b1.1->Q () () (Ac G b F))/\(¬¬b1.1->True/\V (l1++l2) () G)) X
theorem Iy yield p1 H Q X(h_:Ei yield p1 H Q X):qK 235 AF (yield,p1,()) H Q X:=wFS Tryz.f235 {lp:=[(1,⟨[],[0,6],τ⟩)]} h_
def MC(w:Option Nat)(a b:Ab)(L2:Int×Int×qV->HY->(UT->HP)->PX->Prop)(H:HY)(Q:UT->UU)(X:PX):=letI E:=λ(b io:UT)(G:HY)=>Q () () G;letI F:=Ob.st Ap [];letI I:=Ty.int .i64;letI O:=Y0.D;qK 60 BO (w,a,()) H (λ(b1:Option Nat×UT)_ G=>qK 60 BO (w,b,()) G (λ(b:Option Nat×UT)_ G=>letI P:=λ(b7 io:UT)(G:HY)=>∀(b8:Nat),G b8=δ->∀(l:Nat)(r:Loop),Ac G b8 F l=δ->qK 235 AF (λ(a:qV)(H:HY)(Q:qU->HP)(X:Nat->Lf O->HP)=>H l=ν (Ob.lp r)/\H l=ν (Ob.lp r)/\∃(x:List Int),Ac H l (Ob.lp (HW r)) b8=ν (Ob.st Ap x)/\(σ x+σ [a.1])*8<=2^47/\Ac (Ac H l (Ob.lp (HW r))) b8 (Ob.st Ap (x++[a.1])) l=ν (Ob.lp (HW r))/\Q (τ,()) (Ac (Ac (Ac H l (Ob.lp (HW r))) b8 (Ob.st Ap (x++[a.1]))) l (Ob.lp r)),b.1,()) (Ac (Ac G b8 F) l (Ob.lp r)) (λ(b io:UT)(G:HY)=>(G l=ν (Ob.lp r)/\∀(r':Loop),∃(x:List Int),Ac G l (Ob.lp r') b8=ν (Ob.st Ap x)/\qK 128 AI (w,x,()) (CI (Ac G l (Ob.lp r')) b8) E X)∨G l=ν (Ob.lp (Rj r Code.ret))/\∀(r':Loop),qK 128 AI (w,[],()) (Ac G l (Ob.lp r')) E X) X;∀(b2:Nat),G b2=δ->∀(l:Nat)(r:Loop),Ac G b2 F l=δ->qK 139 AF (λ(a:qV)(H:HY)(Q:qU->HP)(X:Nat->Lf O->HP)=>letI R:=Ob.lp (HW r);letI S:=H l=ν (Ob.lp r);S/\S/\∃(x:List Int),letI W:=Ob.st Ap (x++[a.1]);Ac H l R b2=ν (Ob.st Ap x)/\(σ x+σ [a.1])*8<=2^47/\Ac (Ac H l R) b2 W l=ν R/\Q (τ,()) (Ac (Ac (Ac H l R) b2 W) l (Ob.lp r)),b1.1,()) (Ac (Ac G b2 F) l (Ob.lp r)) (λ(b3 io:UT)(G:HY)=>(G l=ν (Ob.lp r)/\∀(r':Loop),∃(x:List Int),Ac G l (Ob.lp r') b2=ν (Ob.st Ap x)/\qK 138 BJ (x,()) (CI (Ac G l (Ob.lp r')) b2) (λ(b4:UT)(io:List Int×UT)(G:HY)=>σ io.1<=2^63-1->∃(V:Nat->List Int×Nat×UT->HP),(∃(n:Nat),V n (io.1,0,()) G)/\∀n x H,V n x H->(x.2.1<σ io.1->x.2.1<=2^63-1->∃(h:x.2.1<σ x.1),∃(h:x.2.1<σ x.1),letI Y:=x.1[x.2.1];∀(b5:Nat),H b5=δ->∀(l:Nat)(r:Loop),Ac H b5 F l=δ->qK 139 AF (λ(a:qV)(H:HY)(Q:qU->HP)(X:Nat->Lf O->HP)=>letI B:=Ob.lp (HW r);letI C:=H l=ν (Ob.lp r);C/\C/\∃(x:List Int),letI A:=Ob.st Ap (x++[a.1]);Ac H l B b5=ν (Ob.st Ap x)/\(σ x+σ [a.1])*8<=2^47/\Ac (Ac H l B) b5 A l=ν B/\Q (τ,()) (Ac (Ac (Ac H l B) b5 A) l (Ob.lp r)),b.1,()) (Ac (Ac H b5 F) l (Ob.lp r)) (λ(b6 io:UT)(G:HY)=>(G l=ν (Ob.lp r)/\∀(r':Loop),∃(x1:List Int),Ac G l (Ob.lp r') b5=ν (Ob.st Ap x1)/\qK 138 BJ (x1,()) (CI (Ac G l (Ob.lp r')) b5) (λ(b7:UT)(io:List Int×UT)(G:HY)=>σ io.1<=2^63-1->∃(V1:Nat->List Int×List Int×Nat×UT->HP),(∃(n:Nat),V1 n (x.1,io.1,0,()) G)/\∀n1 x2 H,V1 n1 x2 H->(x2.2.2.1<σ io.1->x2.2.2.1<=(2^63-1:Nat)->∃(h1:x2.2.2.1<σ x2.2.1),letI Z:=λ(b:UT)(G:HY)=>x2.2.2.1+1<=(2^63-1:Nat)/\∃m,m<n1/\V1 m (x2.1,x2.2.1,x2.2.2.1+1,()) G;letI T:=λ(b:UT)=>Z;∃(h2:x2.2.2.1<σ x2.2.1),letI U:=x2.2.1[x2.2.2.1];∃(b8:Nat),letI N:=λ(b:Int×qV)_ G=>qK 54 Bo (w,b.1,b.2.1,()) G (λ(b:qV)_ G=>∃(x4:Am),G b8=ν (Ob.st Co x4)/\x4=x4/\qK 29 MR (x4.m,b.1,(0:Int),()) G (λ(b9:Bool×qV)_ G=>(b9.1->qK 128 AI (w,[b.1],()) G T X)/\(¬b9.1->(¬b9.2.1=0->qK 128 AI (w,[b.1],()) G T X)/\(¬¬b9.2.1=0->L2 (Y,U,b.1,()) G Z X))) X) X;letI L:=H b8;w=ν b8/\(∃(x3:Am),L=ν (Ob.st Co x3)/\(x3=x3/\∃(r:Nat),b1.1=ν r/\∃(m:List (Int×Int)),H r=ν (Ob.mp I I m)/\∃(r:Nat),b.1=ν r/\∃(m1:List (Int×Int)),H r=ν (Ob.mp I I m1)/\qK 25 Ck (x3.m,[(Ag m Y).getD (0:Int),(Ag m1 U).getD (0:Int)],()) H N X)/\x3=x3/\∃(r:Nat),b.1=ν r/\∃(m:List (Int×Int)),H r=ν (Ob.mp I I m)/\∃(r:Nat),b1.1=ν r/\∃(m1:List (Int×Int)),H r=ν (Ob.mp I I m1)/\qK 25 Ck (x3.m,[(Ag m1 Y).getD (0:Int),(Ag m U).getD (0:Int)],()) H N X)/\(∃(r:Nat),b1.1=ν r/\∃(m:List (Int×Int)),let J:=(Ag m Y).getD (0:Int);H r=ν (Ob.mp I I m)/\(∃(x3:Am),L=ν (Ob.st Co x3)/\x3=x3/\∃(r:Nat),b.1=ν r/\∃(m1:List (Int×Int)),H r=ν (Ob.mp I I m1)/\qK 25 Ck (x3.m,[J,(Ag m1 U).getD (0:Int)],()) H N X)/\∃(r:Nat),b.1=ν r/\∃(m1:List (Int×Int)),H r=ν (Ob.mp I I m1)/\dup (∃(x3:Am),L=ν (Ob.st Co x3)/\x3=x3/\qK 25 Ck (x3.m,[J,(Ag m1 U).getD (0:Int)],()) H N X))/\∃(r:Nat),b.1=ν r/\∃(m:List (Int×Int)),let K:=[(Ag m U).getD (0:Int)];H r=ν (Ob.mp I I m)/\(∃(x3:Am),L=ν (Ob.st Co x3)/\x3=x3/\∃(r:Nat),b1.1=ν r/\∃(m1:List (Int×Int)),H r=ν (Ob.mp I I m1)/\qK 25 Ck (x3.m,(Ag m1 Y).getD (0:Int)::K,()) H N X)/\∃(r:Nat),b1.1=ν r/\∃(m1:List (Int×Int)),H r=ν (Ob.mp I I m1)/\dup (∃(x3:Am),L=ν (Ob.st Co x3)/\x3=x3/\qK 25 Ck (x3.m,(Ag m1 Y).getD (0:Int)::K,()) H N X))/\(¬x2.2.2.1<σ io.1->x.2.1+1<=(2^63-1:Nat)/\∃m,m<n/\V m (x2.1,x.2.1+1,()) H)) X)∨G l=ν (Ob.lp (Rj r Code.ret))/\∀(r':Loop),False) X)/\(¬x.2.1<σ io.1->∀(b5:Nat),H b5=δ->∀(l:Nat)(r:Loop),Ac H b5 F l=δ->qK 235 AF (λ(a:qV)(H:HY)(Q:qU->HP)(X:Nat->Lf O->HP)=>H l=ν (Ob.lp r)/\H l=ν (Ob.lp r)/\∃(x:List Int),Ac H l (Ob.lp (HW r)) b5=ν (Ob.st Ap x)/\(σ x+σ [a.1])*8<=2^47/\Ac (Ac H l (Ob.lp (HW r))) b5 (Ob.st Ap (x++[a.1])) l=ν (Ob.lp (HW r))/\Q (τ,()) (Ac (Ac (Ac H l (Ob.lp (HW r))) b5 (Ob.st Ap (x++[a.1]))) l (Ob.lp r)),b1.1,()) (Ac (Ac H b5 F) l (Ob.lp r)) (λ(b6 io:UT)(G:HY)=>(G l=ν (Ob.lp r)/\∀(r':Loop),∃(x:List Int),Ac G l (Ob.lp r') b5=ν (Ob.st Ap x)/\qK 128 AI (w,x,()) (CI (Ac G l (Ob.lp r')) b5) P X)∨G l=ν (Ob.lp (Rj r Code.ret))/\∀(r':Loop),qK 128 AI (w,[],()) (Ac G l (Ob.lp r')) P X) X)) X)∨G l=ν (Ob.lp (Rj r Code.ret))/\∀(r':Loop),False) X) X) X
def DL(w:Option Nat)(t:Ab)(H:HY)(Q:Option Nat×UT->UU)(X:PX):=letI E:=Ty.int .i64;letI F:=Ob.mp E E [];letI I:=ω (t.Op=4);letI O:=σ t.qZ;∀(r:Nat),H r=δ->∀(b:Nat),Ac H r F b=δ->(t.Op=1->(∃(x:Option Nat),Ac (Ac H r F) b (Ob.st Aj (ν r)) b=ν (Ob.st Aj x)/\x=x/\qK 59 Bu (w,τ,()) (Ac (Ac H r F) b (Ob.st Aj (ν r))) (λ(b1:qV)_ G=>∃(r:Nat),x=ν r/\∃(m:List (Int×Int)),letI P:=Ob.mp E E (C4 m t.N b1.1);G r=ν (Ob.mp E E m)/\∃(x:Option Nat),Ac G r P b=ν (Ob.st Aj x)/\x=x/\Q (x,()) () (Ac G r P)) X)/\qK 59 Bu (w,τ,()) (Ac (Ac H r F) b (Ob.st Aj (ν r))) (λ(b1:qV)_ G=>∃(x:Option Nat),G b=ν (Ob.st Aj x)/\x=x/\∃(r:Nat),x=ν r/\∃(m:List (Int×Int)),letI R:=Ob.mp E E (C4 m t.N b1.1);G r=ν (Ob.mp E E m)/\∃(x:Option Nat),Ac G r R b=ν (Ob.st Aj x)/\x=x/\Q (x,()) () (Ac G r R)) X)/\(¬t.Op=1->(t.Op=3->∃(b1:Nat),w=ν b1/\∃(x:Am),Ac (Ac H r F) b (Ob.st Aj (ν r)) b1=ν (Ob.st Co x)/\x=x/\qK 96 D5 (x.l,t.qJ,()) (Ac (Ac H r F) b (Ob.st Aj (ν r))) (λ(b2:qV)_ G=>∃(b3:Nat),w=ν b3/\∃(x:Am),G b3=ν (Ob.st Co x)/\(IK b2.1->(IK b2.1->0<=b2.1)/\∃(h:b2.1.toNat<σ x.l.Aa),x=x/\qK 133 Fp (x.l.Aa[b2.1.toNat],()) G (λ(b4:Int×qV)_ G=>∃(V:Nat->qV->HP),(∃(n:Nat),V n (b4.1,()) G)/\∀n x H,V n x H->(x.1<=b4.2.1->(∃(x1:Option Nat),H b=ν (Ob.st Aj x1)/\x1=x1/\qK 63 Bb (w,b2.1,x.1,I,()) H (λ(b:qV)_ G=>∃(r:Nat),x1=ν r/\∃(m:List (Int×Int)),G r=ν (Ob.mp E E m)/\(IK x.1->IK (x.1+1)/\∃m1,m1<n/\V m1 (x.1+1,()) (Ac G r (Ob.mp E E (C4 m x.1 b.1))))) X)/\qK 63 Bb (w,b2.1,x.1,I,()) H (λ(b5:qV)_ G=>∃(x1:Option Nat),G b=ν (Ob.st Aj x1)/\x1=x1/\∃(r:Nat),x1=ν r/\∃(m:List (Int×Int)),G r=ν (Ob.mp E E m)/\(IK x.1->IK (x.1+1)/\∃m1,m1<n/\V m1 (x.1+1,()) (Ac G r (Ob.mp E E (C4 m x.1 b5.1))))) X)/\(¬x.1<=b4.2.1->∃(x:Option Nat),H b=ν (Ob.st Aj x)/\x=x/\Q (x,()) () H)) X)) X)/\(¬t.Op=3->(t.Op=4->∃(b1:Nat),w=ν b1/\∃(x:Am),Ac (Ac H r F) b (Ob.st Aj (ν r)) b1=ν (Ob.st Co x)/\x=x/\qK 96 D5 (x.l,t.qJ,()) (Ac (Ac H r F) b (Ob.st Aj (ν r))) (λ(b2:qV)_ G=>∃(b3:Nat),w=ν b3/\∃(x:Am),G b3=ν (Ob.st Co x)/\(IK b2.1->(IK b2.1->0<=b2.1)/\∃(h:b2.1.toNat<σ x.l.Aa),x=x/\qK 133 Fp (x.l.Aa[b2.1.toNat],()) G (λ(b4:Int×qV)_ G=>∃(V:Nat->qV->HP),(∃(n:Nat),V n (b4.1,()) G)/\∀n x H,V n x H->(x.1<=b4.2.1->(∃(x1:Option Nat),H b=ν (Ob.st Aj x1)/\x1=x1/\qK 63 Bb (w,b2.1,x.1,I,()) H (λ(b:qV)_ G=>∃(r:Nat),x1=ν r/\∃(m:List (Int×Int)),G r=ν (Ob.mp E E m)/\(IK x.1->IK (x.1+1)/\∃m1,m1<n/\V m1 (x.1+1,()) (Ac G r (Ob.mp E E (C4 m x.1 b.1))))) X)/\qK 63 Bb (w,b2.1,x.1,I,()) H (λ(b5:qV)_ G=>∃(x1:Option Nat),G b=ν (Ob.st Aj x1)/\x1=x1/\∃(r:Nat),x1=ν r/\∃(m:List (Int×Int)),G r=ν (Ob.mp E E m)/\(IK x.1->IK (x.1+1)/\∃m1,m1<n/\V m1 (x.1+1,()) (Ac G r (Ob.mp E E (C4 m x.1 b5.1))))) X)/\(¬x.1<=b4.2.1->∃(x:Option Nat),H b=ν (Ob.st Aj x)/\x=x/\Q (x,()) () H)) X)) X)/\(¬t.Op=4->(t.Op=18->(True->(0:Int)<=0)/\∃(h:ax (0:Int)<O),qK 42 D6 (w,t.qZ[ax (0:Int)],()) (Ac (Ac H r F) b (Ob.st Aj (ν r))) (λ(b1:qV)_ G=>∃(b2:Nat),w=ν b2/\∃(x:Am),G b2=ν (Ob.st Co x)/\x=x/\qK 98 Oh (x.m,b1.1,()) G (λ(b3:Int×qV)_ G=>qK 54 Bo (w,b3.1,b3.2.1,()) G (λ(b4:qV)_ G=>letI S:=[b1.1,b4.1];∃(V:Nat->Nat×UT->HP),(∃(n:Nat),V n (0,()) G)/\∀n x H,V n x H->(x.1<2->x.1<=2^63-1->∃(h:x.1<σ S),letI W:=1+(x.1:Int);letI Y:=IK W;x.1<=2^63-1->Y/\(Y->(Y->0<=W)/\∃(h1:W.toNat<O),qK 60 BO (w,t.qZ[W.toNat],()) H (λ(b5:Option Nat×UT)_ G=>∀(b6:Nat),G b6=δ->∀(l:Nat)(r:Loop),Ac G b6 (Ob.st Ap []) l=δ->qK 139 AF (λ(a:qV)(H:HY)(Q:qU->HP)(X:Nat->Lf Y0.D->HP)=>letI B:=Ob.lp (HW r);letI C:=H l=ν (Ob.lp r);C/\C/\∃(x:List Int),letI A:=Ob.st Ap (x++[a.1]);Ac H l B b6=ν (Ob.st Ap x)/\(σ x+σ [a.1])*8<=(2^47:Nat)/\Ac (Ac H l B) b6 A l=ν B/\Q (τ,()) (Ac (Ac (Ac H l B) b6 A) l (Ob.lp r)),b5.1,()) (Ac (Ac G b6 (Ob.st Ap [])) l (Ob.lp r)) (λ(b7 io:UT)(G:HY)=>(G l=ν (Ob.lp r)/\∀(r':Loop),∃(x1:List Int),Ac G l (Ob.lp r') b6=ν (Ob.st Ap x1)/\qK 138 BJ (x1,()) (CI (Ac G l (Ob.lp r')) b6) (λ(b8:UT)(io:List Int×UT)(G:HY)=>σ io.1<=(2^63-1:Nat)->∃(V1:Nat->List Int×Nat×UT->HP),(∃(n:Nat),V1 n (io.1,0,()) G)/\∀n1 x2 H,V1 n1 x2 H->(x2.2.1<σ io.1->x2.2.1<=(2^63-1:Nat)->∃(h2:x2.2.1<σ x2.1),let Z:=λ(b io:UT)(G:HY)=>x2.2.1+1<=(2^63-1:Nat)/\∃m,m<n1/\V1 m (x2.1,x2.2.1+1,()) G;∃(h3:x2.2.1<σ x2.1),let U:=x2.1[x2.2.1];let T:=λ(b10:Int×qV)_ G=>qK 54 Bo (w,b10.1,b10.2.1,()) G (λ(b11:qV)_ G=>∃(r:Nat),b5.1=ν r/\∃(m:List (Int×Int)),G r=ν (Ob.mp E E m)/\qK 128 AI (w,[(Ag m U).getD (0:Int)],()) G (λ(b12 io:UT)(G:HY)=>∃(x:Option Nat),G b=ν (Ob.st Aj x)/\x=x/\qK 134 BZ (w,x,U,b11.1,()) G Z X) X) X;∃(b9:Nat),w=ν b9/\(∃(x3:Am),H b9=ν (Ob.st Co x3)/\x3=x3/\∃(r:Nat),b5.1=ν r/\∃(m:List (Int×Int)),H r=ν (Ob.mp E E m)/\qK 25 Ck (x3.m,[(Ag m U).getD (0:Int),S[x.1]],()) H T X)/\∃(r:Nat),b5.1=ν r/\∃(m:List (Int×Int)),H r=ν (Ob.mp E E m)/\dup (∃(x3:Am),H b9=ν (Ob.st Co x3)/\x3=x3/\qK 25 Ck (x3.m,[(Ag m U).getD (0:Int),S[x.1]],()) H T X))/\(¬x2.2.1<σ io.1->x.1+1<=(2^63-1:Nat)/\∃m,m<n/\V m (x.1+1,()) H)) X)∨G l=ν (Ob.lp (Rj r Code.ret))/\∀(r':Loop),False) X) X))/\(¬x.1<2->qK 128 AI (w,[b1.1,b4.1],()) H (λ(b5 io:UT)(G:HY)=>∃(x:Option Nat),G b=ν (Ob.st Aj x)/\x=x/\Q (x,()) () G) X)) X) X) X)/\(¬t.Op=18->(True->(0:Int)<=0)/\∃(h:ax (0:Int)<O),(True->(0:Int)<=1)/\∃(h1:ax (1:Int)<O),qK 135 FA (w,t.qZ[ax (0:Int)],t.qZ[ax (1:Int)],λ(a:Int×Int×qV)(H:HY)(Q:UT->HP)(X:Nat->Lf Y0.D->HP)=>qK 136 CZ (a.1,a.2.1,a.2.2.1,t,w,ν b,()) H (λ(b x:UT)(G:HY)=>Q () G) X,()) (Ac (Ac H r F) b (Ob.st Aj (ν r))) (λ(b1 io:UT)(G:HY)=>∃(x:Option Nat),G b=ν (Ob.st Aj x)/\x=x/\Q (x,()) () G) X))))
theorem EP w t H Q X(h_:DL w t H Q X):qK 60 BO (w,t,()) H Q X:=wF Tryz.f60 {lp:=[(11,⟨[(9,.one (.dat I6))],[2,3,5,6,8],τ⟩),(22,⟨[(111,.one (.own I6)),(113,.nat)],[2,3,5,10,11,13,14,96,97,111,112],τ⟩),(18,⟨[(97,.nat)],[2,3,5,10,11,96],τ⟩)],pr:=[(5,35)],im:=[2,3],il:=ilT,hd:=[(5,[5]),(13,[5])]} h_
def RJ(m:Option Nat)(l:Ae)(t:Ab)(H:HY)(Q:List Df×qV->UU)(X:PX):=letI E:=Ty.int .i64;qK 40 Ix (m,l,()) H (λ(b:Option Nat×qV)_ G=>(¬b.2.1=0->Q ([],b.2.1,()) () G)/\(¬¬b.2.1=0->qK 41 EE (l.Aa,t,τ,()) G (λ(b1:Af×qV)_ G=>(¬b1.2.1=0->Q ([],b1.2.1,()) () G)/\(¬¬b1.2.1=0->(b1.1.Bool->Q ([],13,()) () G)/\(¬b1.1.Bool->qK 67 Bu (b.1,ψ,()) G (λ(b2:qV)_ G=>qK 67 Bu (b.1,τ,()) G (λ(b3:qV)_ G=>qK 56 A6 (b.1,λ(a:Option Nat×List Int×UT)(H:HY)(Q:Int×qV->HP)(X:Nat->Lf Y0.D->HP)=>qK 25 Ck (a.1,a.2.1,()) H (λ(b:Int×qV)(x:UT)(G:HY)=>Q (b.1,b.2.1,()) G) X,[b2.1,b3.1],()) G (λ(b4:qV)_ G=>qK 60 BO (b.1,t,()) G (λ(b5:Option Nat×UT)_ G=>∀(b6:Nat),G b6=δ->∀(l:Nat)(r:Loop),Ac G b6 (Ob.st Ap []) l=δ->qK 139 AF (λ(a:qV)(H:HY)(Q:qU->HP)(X:Nat->Lf Y0.D->HP)=>letI F:=Ob.lp (HW r);letI I:=H l=ν (Ob.lp r);I/\I/\∃(x:List Int),letI O:=Ob.st Ap (x++[a.1]);Ac H l F b6=ν (Ob.st Ap x)/\(σ x+σ [a.1])*8<=2^47/\Ac (Ac H l F) b6 O l=ν F/\Q (τ,()) (Ac (Ac (Ac H l F) b6 O) l (Ob.lp r)),b5.1,()) (Ac (Ac G b6 (Ob.st Ap [])) l (Ob.lp r)) (λ(b7 io:UT)(G:HY)=>(G l=ν (Ob.lp r)/\∀(r':Loop),∃(x:List Int),Ac G l (Ob.lp r') b6=ν (Ob.st Ap x)/\qK 138 BJ (x,()) (CI (Ac G l (Ob.lp r')) b6) (λ(b8:UT)(io:List Int×UT)(G:HY)=>σ io.1<=2^63-1->∃(V:Nat->List Df×List Int×List Int×Nat×UT->HP),(∃(n:Nat),V n ([],[],io.1,0,()) G)/\∀n x H,V n x H->(x.2.2.2.1<σ io.1->x.2.2.2.1<=2^63-1->∃(h:x.2.2.2.1<σ x.2.2.1),letI P:=x.2.2.2.1+1;∃(h:x.2.2.2.1<σ x.2.2.1),letI R:=x.2.2.1[x.2.2.2.1];∃(r:Nat),b5.1=ν r/\∃(m1:List (Int×Int)),H r=ν (Ob.mp E E m1)/\qK 27 MR (m,(Ag m1 R).getD 0,b4.1,()) H (λ(b9:Bool×qV)_ G=>letI S:=b9.1=τ;∃(b10:Nat),b.1=ν b10/\∃(x1:Am),letI W:=Ob.st Co {x1 with e:=b9.2.1};G b10=ν (Ob.st Co x1)/\(x1.e=0->(S->∃(r:Nat),b5.1=ν r/\∃(m:List (Int×Int)),let Y:=[{N:=R,H:=(Ag m R).getD 0:Df}];Ac G b10 W r=ν (Ob.mp E E m)/\(σ x.1+σ Y)*(16:Nat)<=(2^47:Nat)/\∃(r:Nat),b5.1=ν r/\∃(m2:List (Int×Int)),let B:=[(Ag m2 R).getD (0:Int)];Ac G b10 W r=ν (Ob.mp E E m2)/\(σ x.2.1+σ B)*(8:Nat)<=(2^47:Nat)/\P<=(2^63-1:Nat)/\∃m3,m3<n/\V m3 (x.1++Y,x.2.1++B,x.2.2.1,P,()) (Ac G b10 W))/\(¬S->P<=(2^63-1:Nat)/\∃m,m<n/\V m (x.1,x.2.1,x.2.2.1,P,()) (Ac G b10 W)))/\(¬x1.e=0->(S->x1=x1/\∃(r:Nat),b5.1=ν r/\∃(m:List (Int×Int)),let C:=[{N:=R,H:=(Ag m R).getD 0:Df}];G r=ν (Ob.mp E E m)/\(σ x.1+σ C)*(16:Nat)<=(2^47:Nat)/\∃(r:Nat),b5.1=ν r/\∃(m2:List (Int×Int)),let A:=[(Ag m2 R).getD (0:Int)];G r=ν (Ob.mp E E m2)/\(σ x.2.1+σ A)*(8:Nat)<=(2^47:Nat)/\P<=(2^63-1:Nat)/\∃m3,m3<n/\V m3 (x.1++C,x.2.1++A,x.2.2.1,P,()) G)/\(¬S->P<=(2^63-1:Nat)/\∃m,m<n/\x1=x1/\V m (x.1,x.2.1,x.2.2.1,P,()) G))) X)/\(¬x.2.2.2.1<σ io.1->qK 43 Em (b.1,x.2.1,()) H (λ(b:qV)_ G=>(¬b.1=0->Q ([],b.1,()) () G)/\(¬¬b.1=0->Q (x.1,0,()) () G)) X)) X)∨G l=ν (Ob.lp (Rj r Code.ret))/\∀(r':Loop),False) X) X) X) X) X))) X)) X
def RI(m:Option Nat)(l:Ae)(i:Int)(t:Ab)(H:HY)(Q:Int×qV->UU)(X:PX):=letI P:=Y0.D;letI S:=Ty.int .i64;letI E:=λ(a:Option Nat×List Int×UT)(H:HY)(Q:Int×qV->HP)(X:Nat->Lf P->HP)=>qK 28 Ck (a.1,a.2.1,()) H (λ(b:Int×qV)(x:UT)(G:HY)=>Q (b.1,b.2.1,()) G) X;letI F:=λ(a:Option Nat×List Int×UT)(H:HY)(Q:Int×qV->HP)(X:Nat->Lf P->HP)=>qK 57 Ck (a.1,a.2.1,()) H (λ(b:Int×qV)(x:UT)(G:HY)=>Q (b.1,b.2.1,()) G) X;letI I:=λ(a:Option Nat×List Int×UT)(H:HY)(Q:Int×qV->HP)(X:Nat->Lf P->HP)=>qK 25 Ck (a.1,a.2.1,()) H (λ(b:Int×qV)(x:UT)(G:HY)=>Q (b.1,b.2.1,()) G) X;letI O:=i.toNat;letI R:=σ l.Aa;qK 40 Ix (m,l,()) H (λ(b:Option Nat×qV)_ G=>letI W:=λ(b5:qV)_ G=>qK 43 Em (b.1,[b5.1],()) G (λ(b:qV)_ G=>Q (b5.1,b.1,()) () G) X;letI Y:=Q (0,2,()) () G;(¬b.2.1=0->Q (0,b.2.1,()) () G)/\(¬¬b.2.1=0->(i<0->Y)/\(¬i<0->R<=2^63-1->((R:Int)<=i->Y)/\(¬(R:Int)<=i->qK 41 EE (l.Aa,t,ψ,()) G (λ(b1:Af×qV)_ G=>letI B:=ω (b1.1.Bool=τ);IK i->(IK i->0<=i)/\∃(h:O<R),letI C:=l.Aa[O];letI Z:=C.Bool=τ;letI A:=(!B==decide Z)=τ;(¬b1.2.1=0->Q (0,b1.2.1,()) () G)/\(¬¬b1.2.1=0->(A->Q (0,13,()) () G)/\(¬A->(Z->qK 53 GB (l,i,()) G (λ(b2:List Int×UT)_ G=>(True->(0:Int)<=0)/\∃(h:ax (0:Int)<σ b2.1),qK 42 D6 (b.1,t,()) G (λ(b3:qV)_ G=>∃(b4:Nat),b.1=ν b4/\∃(x:Am),G b4=ν (Ob.st Co x)/\(x.e=0->x=x/\qK 55 Oh (m,b2.1[ax (0:Int)],()) G (λ(b5:Int×qV)_ G=>qK 54 Bo (b.1,b5.1,b5.2.1,()) G (λ(b6:qV)_ G=>qK 56 A6 (b.1,F,[b3.1,b6.1],()) G W X) X) X)/\(¬x.e=0->x=x/\qK 56 A6 (b.1,F,[b3.1,(0:den P S)],()) G W X)) X) X)/\(¬Z->qK 59 Bu (b.1,ψ,()) G (λ(b2:qV)_ G=>qK 60 BO (b.1,t,()) G (λ(b3:Option Nat×UT)_ G=>∀(b4:Nat),G b4=δ->∀(l1:Nat)(r:Loop),Ac G b4 (Ob.st Ap []) l1=δ->qK 139 AF (λ(a:qV)(H:HY)(Q:qU->HP)(X:Nat->Lf P->HP)=>letI T:=Ob.lp (HW r);letI U:=H l1=ν (Ob.lp r);U/\U/\∃(x:List Int),letI N:=Ob.st Ap (x++[a.1]);Ac H l1 T b4=ν (Ob.st Ap x)/\(σ x+σ [a.1])*8<=2^47/\Ac (Ac H l1 T) b4 N l1=ν T/\Q (τ,()) (Ac (Ac (Ac H l1 T) b4 N) l1 (Ob.lp r)),b3.1,()) (Ac (Ac G b4 (Ob.st Ap [])) l1 (Ob.lp r)) (λ(b5 io:UT)(G:HY)=>(G l1=ν (Ob.lp r)/\∀(r':Loop),∃(x:List Int),Ac G l1 (Ob.lp r') b4=ν (Ob.st Ap x)/\qK 138 BJ (x,()) (CI (Ac G l1 (Ob.lp r')) b4) (λ(b6:UT)(io:List Int×UT)(G:HY)=>σ io.1<=2^63-1->∃(V:Nat->(ByteArray×Bool×Int×qV)×Int×List Int×Nat×UT->HP),(∃(n:Nat),V n ((C.qJ,C.Bool,C.Lo,C.Hi,()),b2.1,io.1,0,()) G)/\∀n x H,V n x H->(x.2.2.2.1<σ io.1->x.2.2.2.1<=(2^63-1:Nat)->∃(h:x.2.2.2.1<σ x.2.2.1),letI K:=x.2.2.2.1+1;letI L:=λ(b8:qV)_ G=>qK 56 A6 (b.1,E,[x.2.1,b8.1],()) G (λ(b:qV)_ G=>K<=(2^63-1:Nat)/\∃m,m<n/\V m ((x.1.1,x.1.2.1,x.1.2.2.1,x.1.2.2.2.1,()),b.1,x.2.2.1,K,()) G) X;letI J:=K<=(2^63-1:Nat)/\∃m,m<n/\V m ((x.1.1,x.1.2.1,x.1.2.2.1,x.1.2.2.2.1,()),x.2.1,x.2.2.1,K,()) H;∃(h:x.2.2.2.1<σ x.2.2.1),(x.1.2.2.1<=x.2.2.1[x.2.2.2.1]->(x.2.2.1[x.2.2.2.1]<=x.1.2.2.2.1->(∃(r:Nat),b3.1=ν r/\∃(m:List (Int×Int)),H r=ν (Ob.mp S S m)/\qK 63 Bb (b.1,i,x.2.2.1[x.2.2.2.1],τ,()) H (λ(b7:qV)_ G=>qK 56 A6 (b.1,I,[(Ag m x.2.2.1[x.2.2.2.1]).getD (0:Int),b7.1],()) G L X) X)/\qK 63 Bb (b.1,i,x.2.2.1[x.2.2.2.1],τ,()) H (λ(b7:qV)_ G=>∃(r:Nat),b3.1=ν r/\∃(m:List (Int×Int)),G r=ν (Ob.mp S S m)/\qK 56 A6 (b.1,I,[(Ag m x.2.2.1[x.2.2.2.1]).getD (0:Int),b7.1],()) G L X) X)/\(¬x.2.2.1[x.2.2.2.1]<=x.1.2.2.2.1->J))/\(¬x.1.2.2.1<=x.2.2.1[x.2.2.2.1]->J))/\(¬x.2.2.2.1<σ io.1->qK 43 Em (b.1,[x.2.1],()) H (λ(b:qV)_ G=>Q (x.2.1,b.1,()) () G) X)) X)∨G l1=ν (Ob.lp (Rj r Code.ret))/\∀(r':Loop),False) X) X) X)))) X)))) X
end
end Go.Proofs.YtcbkbpjlbmalmaaGreatDoor
namespace Go.Proofs.YtcbkbpjlbmalmaaGreatDoor
open Go Go.X Go.Y Go.RowKit Go.Shelf
section
set_option maxRecDepth 100000
set_option maxHeartbeats 1000000
def Akz:Go.Shelf.Ren:=⟨fun|5=>138|8=>195|7=>194|19=>245|20=>246|10=>236|11=>237|12=>238|13=>239|14=>240|15=>241|16=>242|17=>243|18=>244|30=>260|31=>261|32=>262|33=>263|34=>264|35=>265|40=>277|n=>n,fun|23=>23|25=>3|3=>3|32=>237|22=>23|0=>0|44=>285|46=>183|4=>4|36=>279|35=>278|41=>47|5=>5|9=>9|53=>310|57=>314|63=>325|64=>82|n=>n,fun|n=>n⟩
theorem Awg:Go.Proofs.SlLaysM.n5 Tryz.prog Akz:={
 mixed:=by kernel_rfl,
 f5:=⟨Tryz.f138.name,by decide,Tryz.func138.trans (congrArg ν (by kernel_rfl))⟩,
 f7:=⟨Tryz.f194.name,by decide,Tryz.func194.trans (congrArg ν (by kernel_rfl))⟩,
 f8:=Tryz.func195.trans (congrArg ν (by kernel_rfl)),
 f10:=⟨Tryz.f236.name,by decide,Tryz.func236.trans (congrArg ν (by kernel_rfl))⟩,
 f11:=⟨Tryz.f237.name,by decide,Tryz.func237.trans (congrArg ν (by kernel_rfl))⟩,
 f12:=⟨Tryz.f238.name,by decide,Tryz.func238.trans (congrArg ν (by kernel_rfl))⟩,
 f13:=⟨Tryz.f239.name,by decide,Tryz.func239.trans (congrArg ν (by kernel_rfl))⟩,
 f14:=⟨Tryz.f240.name,by decide,Tryz.func240.trans (congrArg ν (by kernel_rfl))⟩,
 f15:=⟨Tryz.f241.name,by decide,Tryz.func241.trans (congrArg ν (by kernel_rfl))⟩,
 f16:=⟨Tryz.f242.name,by decide,Tryz.func242.trans (congrArg ν (by kernel_rfl))⟩,
 f17:=⟨Tryz.f243.name,by decide,Tryz.func243.trans (congrArg ν (by kernel_rfl))⟩,
 f18:=⟨Tryz.f244.name,by decide,Tryz.func244.trans (congrArg ν (by kernel_rfl))⟩,
 f19:=Tryz.func245.trans (congrArg ν (by kernel_rfl)),
 f20:=Tryz.func246.trans (congrArg ν (by kernel_rfl)),
 f30:=⟨Tryz.f260.name,by decide,Tryz.func260.trans (congrArg ν (by kernel_rfl))⟩,
 f31:=Tryz.func261.trans (congrArg ν (by kernel_rfl)),
 f32:=Tryz.func262.trans (congrArg ν (by kernel_rfl)),
 f33:=⟨Tryz.f263.name,by decide,Tryz.func263.trans (congrArg ν (by kernel_rfl))⟩,
 f34:=⟨Tryz.f264.name,by decide,Tryz.func264.trans (congrArg ν (by kernel_rfl))⟩,
 f35:=⟨Tryz.f265.name,by decide,Tryz.func265.trans (congrArg ν (by kernel_rfl))⟩,
 f40:=⟨Tryz.f277.name,by decide,Tryz.func277.trans (congrArg ν (by kernel_rfl))⟩,
 t0:=Tryz.underlying0,
 a0:=Tryz.isAgg0,
 z0:=Tryz.sizeOf0,
 v0:=Tryz.zeroValue0,
 t3:=Tryz.underlying3,
 a3:=Tryz.isAgg3,
 z3:=Tryz.sizeOf3,
 v3:=Tryz.zeroValue3,
 t4:=Tryz.underlying4,
 a4:=Tryz.isAgg4,
 z4:=Tryz.sizeOf4,
 v4:=Tryz.zeroValue4,
 t5:=Tryz.underlying5,
 a5:=Tryz.isAgg5,
 z5:=Tryz.sizeOf5,
 v5:=Tryz.zeroValue5,
 t9:=Tryz.underlying9,
 a9:=Tryz.isAgg9,
 z9:=Tryz.sizeOf9,
 v9:=Tryz.zeroValue9,
 t22:=Tryz.underlying23,
 a22:=Tryz.isAgg23,
 z22:=Tryz.sizeOf23,
 v22:=Tryz.zeroValue23,
 t23:=Tryz.underlying23,
 a23:=Tryz.isAgg23,
 z23:=Tryz.sizeOf23,
 v23:=Tryz.zeroValue23,
 t25:=Tryz.underlying3,
 a25:=Tryz.isAgg3,
 z25:=Tryz.sizeOf3,
 v25:=Tryz.zeroValue3,
 t32:=Tryz.underlying237,
 a32:=Tryz.isAgg237,
 z32:=Tryz.sizeOf237,
 v32:=Tryz.zeroValue237,
 t35:=Tryz.underlying278,
 a35:=Tryz.isAgg278,
 z35:=Tryz.sizeOf278,
 v35:=Tryz.zeroValue278,
 t36:=Tryz.underlying279,
 a36:=Tryz.isAgg279,
 z36:=Tryz.sizeOf279,
 v36:=Tryz.zeroValue279,
 t41:=Tryz.underlying47,
 a41:=Tryz.isAgg47,
 z41:=Tryz.sizeOf47,
 v41:=Tryz.zeroValue47,
 t44:=Tryz.underlying285,
 a44:=Tryz.isAgg285,
 z44:=Tryz.sizeOf285,
 v44:=Tryz.zeroValue285,
 t46:=Tryz.underlying183,
 a46:=Tryz.isAgg183,
 z46:=Tryz.sizeOf183,
 v46:=Tryz.zeroValue183,
 t53:=Tryz.underlying310,
 a53:=Tryz.isAgg310,
 z53:=Tryz.sizeOf310,
 v53:=Tryz.zeroValue310,
 t57:=Tryz.underlying314,
 a57:=Tryz.isAgg314,
 z57:=Tryz.sizeOf314,
 v57:=Tryz.zeroValue314,
 t63:=Tryz.underlying325,
 a63:=Tryz.isAgg325,
 z63:=Tryz.sizeOf325,
 v63:=Tryz.zeroValue325,
 t64:=Tryz.underlying82,
 a64:=Tryz.isAgg82,
 z64:=Tryz.sizeOf82,
 v64:=Tryz.zeroValue82}
theorem Ac0{I:Cb}{W:World}{A T:Bi}{v:Value}{xs:List Int}(L:OO Y0 I6 I W A v xs)(hs:St I W (A++T))(r:σ xs<4611686018427387904):Calls Y0.P 138 #[v] W λe w'=>e=.returned (.tuple #[])/\∃A',Ext I W I w'/\St I w' (A'++T)/\OO Y0 I6 I w' A' v (xs.mergeSort λx y=>ω (x<=y)):=by
 rcases @Bw.ex _ (RT Y0.toUS I6) _ _ _ _ _ L with ⟨rfl,rfl,rfl⟩|⟨b,h,l,G,a,rfl,rfl,Y,Q,M,S⟩
 .have g:=Go.Proofs.AnyM.slices_Sort_int_none (P:=Y0.P) Awg δ 0 W;change Calls Y0.P 138 _ _ _ at g;refine Calls.mono g λe w'⟨J,w⟩=>⟨J,[],?_⟩
  subst w;exact⟨Ext.refl _ _,hs,by simpa using L⟩
 .letI:AT (den Y0.D I6):=RT Y0.toUS I6
  have B:AT.size (den Y0.D I6)=1:=rfl;have m:∀j(o:j<σ xs),h[a+j]?=ν (.int .i64 xs[j])/\Bl .i64 xs[j]:=λj o=>by
   obtain⟨u,hu,C⟩:=S j o;have p:=AS.1 (show rp Y0.toUS I6 I W u xs[j] from hu);have:=C 0 (by rw[p.1];exact Nat.one_pos);rw[B,p.1]at this;refine⟨?_,p.2⟩;have e:a+(j*1+0)=a+j:=by omega
   rw[<-e];exact this
  have t:=hs.heap;have s:b<W.heap.size:=(be.1 t).1;have R:Go.Sort.Holds (Value.int .i64) W b a xs.toArray:=by
   intro j o;have D:j<σ xs:=by simpa using o
   refine⟨?_,by simp [World.frozen?,t]⟩;rw[Bz t,getElem!_pos xs.toArray j o];exact(m j D).1
  have g:=Go.Proofs.AnyM.slices_Sort_int (P:=Y0.P) Awg b a l xs W R s r;change Calls Y0.P 138 _ _ _ at g;refine g.mono λe w'⟨J,n,V,w⟩=>⟨J,?_⟩
  have f:(xs.mergeSort λx y=>ω (x<=y)).Perm xs:=bc _ _;generalize O:(xs.mergeSort λx y=>ω (x<=y))=k at f w;have K:σ k=σ xs:=f.length_eq;let d:Array Value:=Go.Sort.putCells (Value.int .i64) a k.toArray h;have q:d.size=h.size:=by simp [d,Go.Sort.putCells]
  refine⟨[(b,.cells d G (0,0))],?_⟩;obtain⟨X,Z⟩:=hs.write (w':=Go.Sort.putRow (Value.int .i64) (Go.Sort.ahead W n) b a k.toArray) (o':=.cells d G (0,0)) rfl rfl rfl (by simp [Go.Sort.putRow,Go.Sort.mapBlock,Go.Sort.ahead]) (by
   show (W.heap.modify b _)[b]?=_;rw[bv,UV rfl,t];rfl) (λc C=>by
   show (W.heap.modify b _)[c]?=_;rw[bv,GT (Ne.symm C)])
  obtain⟨x2,U⟩:=Anz V Z;subst w;refine⟨X.trans x2,U,⟨.inr ⟨b,d,l,G,a,rfl,congrArg (λn=>Value.slice (ν ⟨b,a,δ⟩) n l) K.symm,cb (Nat.le_of_eq K) Y,Q,by rw[q];exact M,λj o=>?_⟩⟩⟩;have z:Bl .i64 k[j]:=by obtain⟨i,E,e⟩:=ae.1 (f.mem_iff.1 (ai o));rw[<-e];exact(m i E).2
  refine⟨.int .i64 k[j],AS.2 ⟨rfl,z⟩,λi E=>?_⟩;have F:i=0:=by have:i<1:=E;omega
  subst F;show d[a+(j*1+0)]?=ν (Value.int .i64 k[j]);have H:a+(j*1+0)<h.size:=by have h5':a+l*1<=h.size:=M;omega
  simp only[d,Go.Sort.putCells,Array.getElem?_mapIdx,Array.getElem?_eq_getElem H,Option.map_some];have hr:a<=a+(j*1+0)/\a+(j*1+0)<a+k.toArray.size:=by
   refine⟨by omega,?_⟩;have:k.toArray.size=σ k:=by simp
   omega
  rw[UV hr];have N:a+(j*1+0)-a=j:=by omega
  rw[N,getElem!_pos k.toArray j (by simpa using o)];simp
theorem V9{x:List Int}{H:HY}{X:PX}{Q:Unit->List Int×Unit->HP}(c:σ x<4611686018427387904)(h:Q () (x.mergeSort λa b=>ω (a<=b),()) H):qK 138 BJ (x,()) H Q X:=by intro I w T A g s n l m;obtain⟨v,o,p,t,rfl,rfl,q,rfl,rfl⟩:=n;have j:=Ac0 (T:=g++T) q (m.perm (by simpa using ab g p T)) c;refine Calls.mono j λe u⟨r,f,d,k,i⟩=>.inl ⟨_,I,r,d,g,f,H,?_,l.mono d,(),(x.mergeSort λa b=>ω (a<=b),()),[],[],f,rfl,rfl,⟨rfl,rfl⟩,⟨v,[],f,[],rfl,by simp,i,rfl⟩,h⟩;exact k.perm (ab f g T)
end
end Go.Proofs.YtcbkbpjlbmalmaaGreatDoor
namespace Go.Proofs.YtcbkbpjlbmalmaaGreatDoor
open Go Go.X Go.Y
section
abbrev YL(l c:Nat)(r:Loop):FT Y0 [.int .i64] [.bool]:=λ(a:Int×Unit)(H:HY)(Q:Bool×Unit->HP)(_:Nat->Lf Y0.D->HP)=>H l=ν (Ob.lp r)/\H l=ν (Ob.lp r)/\∃(x:List Int),Ac H l (Ob.lp (HW r)) c=ν (Ob.st Ap x)/\(σ x+σ [a.1])*8<=140737488355328/\Ac (Ac H l (Ob.lp (HW r))) c (Ob.st Ap (x++[a.1])) l=ν (Ob.lp (HW r))/\Q (τ,()) (Ac (Ac (Ac H l (Ob.lp (HW r))) c (Ob.st Ap (x++[a.1]))) l (Ob.lp r))
variable {b l c:Nat} {r:Loop} {m:List (Int×Int)} {H0:HY} {X:PX} {Q:Unit->UU}
theorem Z6{g:Int×Int->Int}(s:H0 b=ν (.mp I6 I6 m))(A:H0 c=δ)(v:H0 l=δ)(n:l≠c)(C:σ m<=1000000)(h:∀x:List Int,x.Perm (m.map g)->Q () () (Ac (Ac H0 c (Ob.st Ap x)) l (Ob.lp r))):∃(V:List (Int×Int)->UU),(True/\V m () (CI (Ac (Ac H0 c (Ob.st Ap [])) l (Ob.lp r)) b))/\∀(a:List (Int×Int))(x:Unit)(H:HY),V a x H->(a=[]->Q () () (Ac H b (Ob.mp (Ty.int .i64) (Ty.int .i64) m)))/\∀(o:List (Int×Int))(p:Int×Int)(q:List (Int×Int)),a=o++p::q->YL l c r (g p,()) H (λ(i:Bool×Unit)(y:HY)=>(¬i.1=τ->Q () () (Ac y b (Ob.mp (Ty.int .i64) (Ty.int .i64) m)))/\(¬¬i.1=τ->True/\V (o++q) () y)) X:=by
 have f:b≠c:=λe=>by grind
 have d:b≠l:=λe=>by grind
 refine⟨λa _ H=>∃x:List Int,H=CI (Ac (Ac H0 c (Ob.st Ap x)) l (Ob.lp r)) b/\(x++a.map g).Perm (m.map g),⟨trivial,[],rfl,by simp⟩,?_⟩;rintro a u H ⟨x,rfl,t⟩;refine⟨λe=>?_,λo p q e=>?_⟩
 .subst e;have j:Ac (CI (Ac (Ac H0 c (Ob.st Ap x)) l (Ob.lp r)) b) b (Ob.mp (Ty.int .i64) (Ty.int .i64) m)=Ac (Ac H0 c (Ob.st Ap x)) l (Ob.lp r):=by grind[Ac,CI]
  grind
 .subst e;have w:σ x<=1000000:=by have:=t.length_eq;grind
  refine⟨by simp [Ac,CI,Ne.symm d],by simp [Ac,CI,Ne.symm d],x,by simp_all[Ac,CI,Ne.symm],by grind,by grind[Ac],λB=>qG rfl B,λ_=>⟨trivial,x++[g p],?_,?_⟩⟩
  .funext k;by_cases j:k=l
   .simp_all[Ac,CI,Ne.symm]
   .by_cases z:k=c;all_goals simp_all[Ac,CI,Ne.symm]
  grind
theorem Ap2(a:H0 b=ν (.mp I6 I6 m))(g:H0 c=δ)(j:H0 l=δ)(f:l≠c)(k:σ m<=1000000)(h:∀x:List Int,x.Perm (m.map (·.1))->Q () () (Ac (Ac H0 c (Ob.st Ap x)) l (Ob.lp r))):qK 139 AF (YL l c r,ν b,()) (Ac (Ac H0 c (Ob.st Ap [])) l (Ob.lp r)) Q X:=by
 have d:b≠c:=λe=>by grind
 have i:b≠l:=λe=>by grind
 apply Ji;unfold E6;exact⟨b,rfl,m,by grind[Ac],trivial,Z6 a g j f k h⟩
theorem Af5(a:H0 b=ν (.mp I6 I6 m))(g:H0 c=δ)(j:H0 l=δ)(f:l≠c)(k:σ m<=1000000)(h:∀x:List Int,x.Perm (m.map (·.2))->Q () () (Ac (Ac H0 c (Ob.st Ap x)) l (Ob.lp r))):qK 235 AF (YL l c r,ν b,()) (Ac (Ac H0 c (Ob.st Ap [])) l (Ob.lp r)) Q X:=by
 have d:b≠c:=λe=>by grind
 have i:b≠l:=λe=>by grind
 apply Iy;unfold Ei;exact⟨b,rfl,m,by grind[Ac],trivial,Z6 a g j f k h⟩
def Au(m:List (Int×Int)):List Int:=(m.map (·.1)).mergeSort λa b=>ω (a<=b)
theorem Tx{x y:List Int}(h:x.Perm y):(x.mergeSort λa b=>ω (a<=b))=y.mergeSort λa b=>ω (a<=b):=by grind[List.Perm.eq_of_pairwise,bc,trans,List.pairwise_mergeSort]
theorem Dz(m:List (Int×Int)):(Au m).Perm (m.map (·.1)):=bc _ _
theorem N9(m:List (Int×Int)):σ (Au m)=σ m:=by rw[(Dz m).length_eq,aj]
theorem Iq{H:HY}{D:Nat->Nat->Loop->HP}{P:Nat->Nat->Loop->Unit->List Int×Unit->HP}(q:H b=ν (.mp I6 I6 m))(o:σ m<=1000000)(h:∀c l r d,H l=δ->P c l r () (Au m,()) (Ac H l (Ob.lp d))):∀(c:Nat),H c=δ->∀(l:Nat)(r:Loop),Ac H c (Ob.st Ap []) l=δ->qK 139 AF (YL l c r,ν b,()) (Ac (Ac H c (Ob.st Ap [])) l (Ob.lp r)) (λ(_ _:Unit)(g:HY)=>(g l=ν (Ob.lp r)/\∀(d:Loop),∃(x:List Int),Ac g l (Ob.lp d) c=ν (Ob.st Ap x)/\qK 138 BJ (x,()) (CI (Ac g l (Ob.lp d)) c) (P c l r) X)∨D c l r g) X:=by
 intro c n l r i;have a:l≠c:=λe=>by grind[Ac]
 have f:H l=δ:=by simp_all[Ac]
 refine Ap2 q n f a o λx j=>.inl ⟨by simp [Ac],λd=>⟨x,by simp [Ac,Ne.symm a],?_⟩⟩;have p:CI (Ac (Ac (Ac H c (Ob.st Ap x)) l (Ob.lp r)) l (Ob.lp d)) c=Ac H l (Ob.lp d):=by funext k;simp_all[Ac,CI,Ne.symm]
 rw[p];refine V9 (by have:=j.length_eq;grind) ?_;rw[Tx j];exact h c l r d f
end
section
set_option maxRecDepth 100000
set_option maxHeartbeats 2000000
def NN(w:Option Nat)(BX:List Int)(H:HY)(Q:qV->UU)(X:PX):=
 letI I:=Ty.int .i64;letI E:=I.sl;letI F:=(Ty.u 0).sl;letI O:=AV.own (1);∃(b:Nat),letI P:={i:=0,b:=b,n:=1,x:=δ:Opn Y0};w=ν b/\∃(x:Am),letI W:=AV.dat F x.l.Aa;letI Y:=[AV.dat I x.e];letI B:=AV.dat E x.l.Bits;letI C:=AV.dat E x.l.At;letI D:=AV.dat Ty.ptr x.m;letI R:=ν (CU.blk (D::W::B::C::O::Y));letI S:=if 0=0 then R else δ;H b=ν (Ob.st Co x)/\(S=R/\True)/\∃(V:List (Int×Bool)->UU),(P=P/\(S=R/\True)/\V x.live () H)/\∀(left:List (Int×Bool))(x_1:Unit)(H_1:HY),V left x_1 H_1->(left=[]->Q (x.e,()) () (Ac H_1 b (Ob.st Co x)))/\∀(l1:List (Int×Bool))(p:Int×Bool)(l2:List (Int×Bool)),left=l1++p::l2->(¬x.e=(0:Int)->qK 110 Em (x.m,[p.1],()) (CI H_1 b) (λ(_:Int×Unit)_ H'=>H' b=δ->P=P/\((if 2=0 then ν (CU.tp (Y:=Y0) [AV.dat I p.1,AV.dat Ty.bool p.2]) else if 0=0 then ν (CU.blk (D::W::B::C::(if 1=4 then AV.dat E [p.1] else O)::Y)) else δ)=R/\True)/\V (l1++l2) () (Kj H' b (H_1 b))) X)/\(¬¬x.e=(0:Int)->qK 109 Ey (BX,p.1,()) (CI H_1 b) (λ(b_1:Bool×Unit)_ H'=>letI A:=ν (CU.tp (Y:=Y0) [AV.dat I p.1,AV.dat Ty.bool p.2]);letI Z:=Kj H' b (H_1 b);H' b=δ->(¬b_1.1=τ->qK 110 Em (x.m,[p.1],()) (CI Z b) (λ(_:Int×Unit)(_:Unit)(H'_1:HY)=>H'_1 b=δ->P=P/\((if 2=0 then A else if 0=0 then ν (CU.blk (D::W::B::C::(if 1=4 then AV.dat E [p.1] else O)::Y)) else δ)=R/\True)/\V (l1++l2) () (Kj H'_1 b (Z b))) X)/\(¬¬b_1.1=τ->P=P/\((if 2=0 then A else S)=R/\True)/\V (l1++l2) () Z)) X)
def HZ(s:List Int)(v:Int)(H:HY)(Q:qU->UU)(X:PX):=qK 173 F6 (s,v,()) H (λ(b:qV)_ G=>Q (ω (0<=b.1),()) () G) X
theorem MK s v H Q X(h_:HZ s v H Q X):qK 109 Ey (s,v,()) H Q X:=wF Tryz.f109 {} h_
end
section
variable {H:HY} {X:PX}
theorem Al5{s:List Int}{v:Int}{Q:Int×Unit->UU}(hs:σ s<=1000000)(h:∀i:Int,(0<=i↔v∈s)->Q (i,()) () H):qK 173 F6 (s,v,()) H Q X:=by
 refine wF Tryz.f173 {lp:=[(2,⟨[(8,.one (.dat I6))],[0,1,7],ψ⟩)]} (?_:σ s<=2^63-1->∃(V:Nat->qV->Prop),(∃(n:Nat),H=H/\V n (0,()))/\∀n x,V n x->(x.1<((σ s):Int)->IK x.1->(IK x.1->0<=x.1)/\∃(h:x.1.toNat<σ s),(v=s[x.1.toNat]->Q (x.1,()) () H)/\(¬v=s[x.1.toNat]->IK x.1->IK (x.1+1)/\∃m,m<n/\H=H/\V m (x.1+1,())))/\(¬x.1<((σ s):Int)->Q (-1,()) () H));refine λ_=>⟨λn z=>∃k:Nat,z.1=k/\k<=σ s/\n=σ s-k/\v∉s.take k,⟨σ s,rfl,0,rfl,ag _,rfl,by simp⟩,?_⟩
 rintro n ⟨i,u⟩ ⟨k,c,r,q,f⟩;have j:=c;subst j;have p:=by omega
 refine⟨λa l=>?_,λa=>?_⟩
 .have a:=a;have b:k<σ s:=by omega
  have m:∀o,s[(k:Int).toNat]=s[k]:=λo=>by congr 1
  refine⟨λ_=>by omega,by omega,λe=>?_,λe _=>?_⟩
  .grind
  .have e:=e;refine⟨Aq.2 (by omega),σ s-(k+1),by omega,rfl,k+1,by rfl,b,rfl,?_⟩;rw[a8 b,ak,aa];grind
 grind
theorem Ab4{s:List Int}{v:Int}{Q:Bool×Unit->UU}(hs:σ s<=1000000)(h:Q (ω (v∈s),()) () H):qK 109 Ey (s,v,()) H Q X:=by grind[MK,HZ,Al5]
theorem MG.at_{H':HY}{b c:Nat}{M:Mn}(h:MG H b M)(n:G5 b M c)(e:∀d,d≠c->H' d=H d):MG H' b M:=by
 refine⟨⟨?_,⟨?_,?_,?_,h.h.st.nd,λv a=>?_⟩,?_⟩,h.i,h.v,h.e,h.n8,h.rm⟩
 .rw[e _ n.b.symm];exact h.h.ob
 .rw[e _ n.sb.symm];exact h.h.st.st
 .rw[e _ n.bl.symm];exact h.h.st.lv
 .rw[e _ n.bp.symm];exact h.h.st.po
 .rw[e _ λe=>n.tb (by grind)];exact h.h.st.ta v a
 .rw[e _ n.mb.symm];exact h.h.me
structure Akl(M0 M M':Mn)(lv:List (Int×Bool))(BX:List Int):Prop where
 bs:DD M M'
 nx:M'.nx=M.nx
 Ar:∀k,M'.Ar k=if (Ag lv k).isSome=τ/\k∉BX then δ else M.Ar k
 ln:σ M'.hs=σ M0.hs+σ (lv.filter λp=>ω (p.1∈BX))
theorem ML{wb b:Nat}{M0 M:Mn}{L:Ae}{lv:List (Int×Bool)}{BX:List Int}{Q:Int×Unit->UU}(w:WK H wb b M0 M L lv)(hn:M.nx<576460752303423486)(hk:σ BX<=1000000)(h:∀M' H',MG H' b M'->Akl M0 M M' lv BX->Sz wb b M H H'->Q (0,()) () H'):qK 43 Em (ν wb,BX,()) H Q X:=by
 refine wFS Tryz.f43 {lp:=[(2,⟨[],[0,1,10],τ⟩)],oc:=[32,23]} (?_:NN (ν wb) BX H Q X);unfold NN;let V:List _->HP:=λf H'=>∃M',H' wb=H wb/\MG H' b M'/\DD M M'/\M'.nx=M.nx/\(f.map (·.1)).Nodup/\(∀p∈f,p∈lv)/\(∀k,M'.Ar k=if (Ag lv k).isSome=τ/\k∉BX/\k∉f.map (·.1) then δ else M.Ar k)/\σ M'.hs+σ (f.filter λp=>ω (p.1∈BX))=σ M0.hs+σ f+σ (lv.filter λp=>ω (p.1∈BX))/\Sz wb b M H H';have v:∀p∈lv,(Ag lv p.1).isSome=τ:=λp U=>by rw[FV w.nd U];rfl
 have A:∀k,M.Ar k=if (Ag lv k).isSome=τ/\k∉BX/\k∉lv.map (·.1) then δ else M.Ar k:=λk=>by rw[GT];rintro⟨P,_,h3⟩;rw[En.2 h3]at P;cases P
 have hV0:V lv H:=⟨M,rfl,w.mg,⟨rfl,rfl,rfl,rfl,rfl⟩,rfl,w.nd,λ_ h=>h,A,by have:=w.ln;omega,.refl⟩
 refine⟨wb,rfl,_,w.ob,⟨rfl,trivial⟩,λf _ H'=>V f H',⟨rfl,⟨rfl,trivial⟩,hV0⟩,?_⟩;rintro f u j ⟨M',G,g,O,nx,nd,I,r,ln,fr⟩;have S:=G.trans w.ob;have D:Ac j wb (.st Co {m:=ν b,l:=L,live:=lv,e:=0})=j:=by
  funext c;unfold Ac;split
  .rename_i e;rw[e,S]
  .rfl
 have wn:=w.wn.same O;refine⟨λe=>?_,λt p z e=>⟨λhe=>qG rfl he,λ_=>?_⟩⟩
 .subst e;show Q (0,()) () _;rw[D];refine h M' j g ⟨O,nx,λk=>?_,by simpa using ln⟩ fr;rw[r];simp
 .subst e;have T:=I p (by simp);have C:=by have P:=((List.perm_middle  (a:=p) ).map _).nodup_iff.1 nd;rw[ar,bt]at P;exact P
  have i:∀k,k∈(t++p::z).map (·.1)↔k=p.1∨k∈(t++z).map (·.1):=λk=>by
   simp only[ah,ar,ak,ay];constructor
   .rintro(a|a|a)
    .exact .inr (.inl a)
    .exact .inl a
    .exact .inr (.inr a)
   .rintro(a|a|a)
    .exact .inr (.inl a)
    .exact .inl a
    .exact .inr (.inr a)
  have N:σ ((t++p::z).filter λp=>ω (p.1∈BX))=σ ((t++z).filter λp=>ω (p.1∈BX))+if p.1∈BX then 1 else 0:=by
   simp only[List.filter_append];by_cases U:p.1∈BX
   .simp [U];omega
   .simp [U]
  have hll:σ (t++p::z)=σ (t++z)+1:=by simp;omega
  have B:=λq hq=>I q (by
   rcases ak.1 hq with a|a
   .exact ac _ a
   .exact ad _ (az _ a))
  have K:∀{H':HY}{o:Option (Ob Y0)},Kj H' wb o wb=o:=λ{H' o}=>UV rfl;have gd:MG (CI j wb) b M':=g.at_ wn λd hd=>by unfold CI;rw[GT hd]
  refine Ab4 hk λhd0=>⟨λZ=>?_,λZ=>?_⟩
  .have y:=λs=>Z (decide_eq_true s);have hlv:=w.live (v p T);obtain⟨g1,g2,g3,F,hF⟩:=hlv;have W:M'.Ar p.1=ν F:=by rw[r,GT λn=>n.2.2 ((i p.1).2 (.inl rfl))];exact hF
   have R:CI (Kj (CI j wb) wb (j wb)) wb=CI j wb:=by
    funext c;by_cases e:c=wb
    .simp [CI,e]
    .simp [CI,Kj,e]
   rw[R];refine T6 (M:=M') gd (by omega) g3 W λM2 H2 e Y J f2 hnone=>⟨rfl,⟨rfl,trivial⟩,M2,?_,?_,O.trans J.bs,J.nx.trans nx,C.2,B,λk=>?_,?_,?_⟩
   .show Kj H2 wb _ wb=_;rw[K,K];exact G
   .exact Y.at_ (wn.same J.bs) λd hd=>by unfold Kj;rw[GT hd]
   .rw[J.Ar,r];by_cases E:k=p.1
    .subst E;rw[UV rfl,UV ⟨v p T,y,C.1⟩]
    .rw[GT E];refine ite_congr (propext ⟨λn=>⟨n.1,n.2.1,λs=>n.2.2 ((i k).2 (.inr s))⟩,λn=>⟨n.1,n.2.1,λs=>((i k).1 s).elim E n.2.2⟩⟩) (λ_=>rfl) (λ_=>rfl)
   .have:=J.ln;rw[GT y]at N;omega
   .refine fr.trans λc a0 a1 a2=>?_;show Kj H2 wb _ c=j c;unfold Kj;rw[GT a1];have:=f2.at (c:=c) (by unfold CI;rw[GT a1];exact a0) (a2.same O);rw[this];unfold CI;rw[GT a1]
  .have y:=am λs=>Z λn=>s (of_decide_eq_true n);have R:Kj (CI j wb) wb (j wb)=j:=by
    funext c;by_cases e:c=wb
    .simp [Kj,e]
    .simp [CI,Kj,e]
   refine⟨rfl,⟨rfl,trivial⟩,M',?_,?_,O,nx,C.2,B,λk=>?_,?_,?_⟩
   .show Kj (CI j wb) wb (j wb) wb=_;rw[R];exact G
   .show MG _ b M';rw[R];exact g
   .rw[r];refine ite_congr (propext ⟨λn=>⟨n.1,n.2.1,λs=>n.2.2 ((i k).2 (.inr s))⟩,λn=>⟨n.1,n.2.1,λs=>((i k).1 s).elim (λe=>n.2.1 (e▸y)) n.2.2⟩⟩) (λ_=>rfl) (λ_=>rfl)
   .rw[UV y]at N;omega
   .show Sz wb b M H _;rw[R];exact fr
end
section
variable {L:Ae} {H:HY} {X:PX}
theorem MD{b:Nat}{M:Mn}{Q:Option Nat×Int×Unit->UU}(f:MG H b M)(i:LK L)(u:M.S.n<2*Fy L->Q (δ,9,()) () H)(q:2*Fy L<=M.S.n->∀wb H',H wb=δ->WK H' wb b M M L []->(∀c,c≠wb->H' c=H c)->Q (ν wb,0,()) () H'):qK 40 Ix (ν b,L,()) H Q X:=by
 refine wF Tryz.f40 {pr:=[(20,1)],im:=[3]} (?_:((ν b)=δ->Q (δ,5,()) () H)/\(¬(ν b)=δ->qK 50 Cv ((ν b),()) H (λ(a:qV)_ G=>qK 89 IQ (L,()) G (λ(b1:qV)_ G=>letI E:=2*b1.1;IK b1.1->IK E/\(a.1<E->Q (δ,9,()) () G)/\(¬a.1<E->∀(a:Nat),G a=δ->Q (ν a,0,()) () (Ac G a (Ob.st Co {m:=(ν b),l:=L,live:=[],e:=0:Am})))) X) X));have v:=i.sum (aq _);have t:=i.ln;have o:=i.lb;refine⟨λr=>qG r (by simp),λ_=>MS f.h f.i (Abx i λ_=>⟨Aq.2 ?_,λa=>u a,λa wb h=>?_⟩)⟩
 .grind[Fy]
 .have a:=a;have l:=f.h.notM h;have g:∀k,M.nx<=k->M.Ar k=δ:=λk n=>by
   cases e:M.Ar k with
   |none=>rfl
   |some F=>
    obtain⟨x,j,_⟩:=Mn.Gj e;have:=(f.i.ok k x j).2.2;omega
  refine q (by omega) _ _ h ⟨Ah _ _ _,f.at_ l λd p=>Ad _ _ p,⟨rfl,rfl,rfl,rfl,rfl⟩,?_,bz _,by simp [Pc],by simp,λk _=>⟨rfl,rfl⟩,λk n=>⟨λm=>qG m (by simp [Ag]),λm=>qG (g k n) m⟩,by simp⟩ λc s=>Ad _ _ s;obtain⟨x,j,_⟩:=Mn.Gj f.i.Awu;have:=(f.i.ok 1 x j).2.2;omega
theorem OK{v:Al}{Q:Int×Int×Unit->UU}(h:Q (if v.Bool=τ then 0 else v.Lo,if v.Bool=τ then 1 else v.Hi,()) () H):qK 133 Fp (v,()) H Q X:=by grind[XY,Qu]
def Arl(n:Int)(k:Nat):Bool:=ω (GI BinOp.and .i64 (n.fdiv (2^min ((k:Int)).toNat 64)) (1:Int)=(1:Int))
def JU(vars:List Int)(n:Int):List CT:=(ao (σ vars)).map λ(k:Nat)=>{Var:=vars.getD k 0,YP:=Arl n k}
theorem U2(vars:List Int)(n:Int):σ (JU vars n)=σ vars:=by unfold JU;simp
variable {n:Int}
theorem QC{vars:List Int}{k:Nat}(h:k<σ vars):(JU vars n)[k]?=ν {Var:=vars[k],YP:=Arl n k}:=by grind[JU]
theorem RS{vars:List Int}:(JU vars n).map (·.Var)=vars:=by
 apply cf;intro k;rw[bi];by_cases h:k<σ vars
 .rw[QC h,a7 h];rfl
 .rw[au (by rw[U2];omega),au (by omega)];rfl
def Cu(L:Ae)(i:Nat)(next:Bool):List Int:=if next=τ then (Ny L i).map (·+1) else Ny L i
def GM(L:Ae)(i:Nat)(n:Int):Int:=match L.Aa[i]? with
 |some v=>if v.Bool=τ then n else n-v.Lo
 |none=>n
variable {i:Nat}
theorem Ai2:(Ny L i).Nodup:=by unfold Ny;refine cg _ ?_ bj;intro a c b h;have h:=h;omega
theorem SZ(b:LK L)(hi:i<σ L.Aa){next:Bool}:σ (Cu L i next)<=30/\(Cu L i next).Nodup/\∀v∈Cu L i next,0<=v/\v<2*Fy L:=by
 unfold Cu;split
 .refine⟨by grind[aj,Xg],cg _ λa c d h=>by omega Ai2,λv e=>?_⟩;obtain⟨u,f,rfl⟩:=an.1 e;have:=Xf b hi f;omega
 .refine⟨Xg b hi,Ai2,λv e=>?_⟩;have:=Xf b hi e;omega
theorem SH{wb b:Nat}{M0 M:Mn}{lv:List (Int×Bool)}{next:Bool}{Q:Int×Unit->UU}(w:WK H wb b M0 M L lv)(hn:M.nx<576460752303423487)(S:σ M.hs<=60000)(D:LK L)(hi:i<σ L.Aa)(O:2*Fy L<=M.S.n)(P:Bl .i64 (GM L i n))(h:∀M' lv' H',WK H' wb b M0 M' L lv'->DD M M'->Used M M' lv lv' [] (E7 (JU (Cu L i next) (GM L i n)))->Sz wb b M H H'->Q (M.nx,()) () H'):qK 63 Bb (ν wb,(i:Int),n,next,()) H Q X:=by
 refine wF Tryz.f63 {lp:=[(8,⟨[(10,.one (.own (.u 11))),(52,.nat)],[0,2,10,50,51],τ⟩)],jn:=[(19,⟨[(9,.one (.dat (.sl I6)))],[0,1,2,3],τ⟩),(35,⟨[(2,.one (.dat I6))],[0,1,3,9],τ⟩)]} (?_:letI E:=(i:Int).toNat;letI F:=IK (i:Int);∃(b:Nat),(ν wb)=ν b/\∃(x:Am),H b=ν (Ob.st Co x)/\x=x/\qK 123 GB (x.l,(i:Int),()) H (λ(b1:List Int×UT)_ G=>∃(M:List Int×UT->HP),(∀x H,M x H->∃(x1:Am),letI I:=σ x.1;H b=ν (Ob.st Co x1)/\(F->(F->0<=(i:Int))/\∃(h:E<σ x1.l.Aa),letI O:=¬x1.l.Aa[E].Bool=τ;x1=x1/\∃(M:qV->HP),(∀x2 H,M x2 H->I<=2^63-1->I<=2^63-1->I<=2^63-1->0<=(I:Int)/\(I:Int)=(I:Int)/\(I:Int).toNat*16<=281474976710656/\(I<=2^63-1->∃(V:Nat->List CT×Nat×UT->HP),(∃(n:Nat),V n (List.replicate (I:Int).toNat {Var:=0,YP:=ψ:CT},0,()) H)/\∀n x3 H,V n x3 H->(x3.2.1<I->x3.2.1<=2^63-1->∃(h:x3.2.1<I),letI P:=x2.1.fdiv (2^min (x3.2.1:Int).toNat 64);IK x2.1->x3.2.1<=2^63-1->(BinOp.shr=BinOp.shr->IK x2.1)/\0<=(x3.2.1:Int)/\(IK P->x3.2.1<=2^63-1->∃(h1:(x3.2.1<σ x3.1)),(x3.2.1<σ x3.1)/\x3.2.1+1<=(2^63-1:Nat)/\∃m,m<n/\V m (x3.1.set x3.2.1 {Var:=x.1[x3.2.1],YP:=ω (GI BinOp.and .i64 P (1:Int)=1):CT},x3.2.1+1,()) H))/\(¬x3.2.1<I->∃(x:Am),H b=ν (Ob.st Co x)/\x=x/\qK 71 Ol (x.m,x3.1,()) H (λ(b:Int×qV)_ G=>qK 54 Bo ((ν wb),b.1,b.2.1,()) G (λ(b:qV)_ G=>Q (b.1,()) () G) X) X)))/\(O->∃(x:Am),H b=ν (Ob.st Co x)/\(F->(F->0<=(i:Int))/\∃(h:E<σ x.l.Aa),letI S:=x.l.Aa[E].Lo;IK n->IK S->IK (n-S)/\x=x/\M (n-S,()) H))/\(¬O->M (n,()) H)))/\(next->∃(x:Am),G b=ν (Ob.st Co x)/\x=x/\qK 53 GB (x.l,(i:Int),()) G (λ(b:List Int×UT)_ G=>M (b.1,()) G) X)/\(¬next->M (b1.1,()) G)) X);have R:((i:Int)).toNat=i:=by omega
 obtain⟨v1,v2,Y⟩:=SZ D hi (next:=next);have U:∀a:List Int,a=Cu L i next->∀C,(C=λx r=>x.1=a/\r=H)->C (a,()) H:=λa _ C hM=>by subst hM;exact⟨rfl,rfl⟩
 refine⟨wb,rfl,_,w.ob,rfl,XF D hi ⟨λx r=>x.1=Cu L i next/\r=H,?_,λI=>⟨_,w.ob,rfl,Vy D hi ⟨by unfold Cu;rw[UV I],rfl⟩⟩,λI=>⟨by unfold Cu;rw[GT I],rfl⟩⟩⟩;rintro⟨a,u⟩ r ⟨E,rfl⟩;have E:=E;subst E;refine⟨_,w.ob,λ_=>⟨λ_=>by omega,by show ((i:Int)).toNat<σ L.Aa;omega,rfl,λx G=>x.1=GM L i n/\G=r,?_,λd=>?_,λd=>?_⟩⟩
 .rintro⟨N,u2⟩ G ⟨l,rfl⟩;have l:=l;subst l;generalize Cu L i next=a at *;generalize GM L i n=N at *;refine λ_ _ _=>⟨by omega,rfl,by show ((σ a:Int)).toNat*16<=_;omega,λ_=>⟨λm z K=>m=σ a-z.2.1/\z.2.1<=σ a/\K=G/\σ z.1=σ a/\∀j,j<z.2.1->z.1[j]?=(JU a N)[j]?,⟨_,rfl,ag _,rfl,by simp,λj A=>qG A (ck _)⟩,?_⟩⟩
  rintro m ⟨s,k,u3⟩ K ⟨o,v,rfl,q,y⟩;have F:m=σ a-k:=o;have hk:k<=σ a:=v;have W:σ s=σ a:=q;have A:∀j,j<k->s[j]?=(JU a N)[j]?:=y;refine⟨λc _=>?_,λc=>?_⟩
  .have c:k<σ a:=c;refine⟨c,λ_ _=>⟨λ_=>P,by show (0:Int)<=(k:Int);omega,λ_ _=>⟨by show k<σ s;omega,by grind,by grind,σ a-(k+1),by omega,rfl,by grind,rfl,by grind,λj p=>?_⟩⟩⟩;have p:j<k+1:=p;show (s.set k _)[j]?=_;rw[List.getElem?_set];by_cases e:k=j
   .subst e;rw[UV rfl,UV (by omega),QC c];rfl
   .rw[GT e];exact A j (by omega)
  .have c:¬k<σ a:=c;have hk2:=by omega
   have J:s=JU a N:=by apply cf;grind[au,U2]
   refine⟨_,w.ob,rfl,?_⟩;show qK 71 Ol (ν b,s,()) K _ X;rw[J];refine Ae2 w.mg hn S (by grind) (λt ht=>?_) (by rw[RS];exact v2) λM' H' g nw f=>KG w g nw f λlv' B w2 Z V T=>h M' lv' B w2 Z V T;grind[JU,bb,RS]
 .have d:=d;refine⟨_,w.ob,λ_=>⟨λ_=>by omega,by grind,λ_ _=>?_⟩⟩;have e:GM L i n=n-(L.Aa[((i:Int)).toNat]'(by omega)).Lo:=by unfold GM;simp only[R]at d ⊢;rw[a7 hi];simp only;rw[GT d]
  grind
 .have d:=d;have e:GM L i n=n:=by unfold GM;simp only[R]at d;rw[a7 hi];simp only;rw[UV (bh.1 d)]
  grind
end
section
structure Has(Mb M:Mn)(lvb lv:List (Int×Bool))(hs:List (Int×B.Fn)):Prop where
 nb:∀k,Mb.nx<=k->Ag lvb k=δ/\Mb.Ar k=δ
 nd:(hs.map (·.1)).Nodup
 ge:∀p∈hs,Mb.nx<=p.1/\p.1<M.nx
 get:∀k,Ag lv k=if k∈hs.map (·.1) then ν τ else Ag lvb k
 Ar:∀p∈hs,M.Ar p.1=ν p.2
 Lu:∀k,k∉hs.map (·.1)->M.Ar k=Mb.Ar k
 len:σ lv=σ lvb+σ hs
 nx:Mb.nx<=M.nx
variable {M:Mn} {lv:List (Int×Bool)}
theorem WK.has{H:HY}{wb b:Nat}{M0:Mn}{L:Ae}(w:WK H wb b M0 M L lv):Has M M lv lv []:=⟨λ_ a=>w.nl a,by simp,by simp,by simp,by simp,λ_ _=>rfl,rfl,bz _⟩
variable {l:List Int}
theorem Ahb{ks:List Int}(f:ks.Nodup)(c:l.Nodup)(hs:∀k∈l,k∈ks):σ (ks.filter λk=>ω (k∉l))+σ l=σ ks:=by
 have e:(ks.filter λk=>ω (k∈l)).Perm l:=by grind
 have b:=List.length_eq_countP_add_countP (λk=>ω (k∈l)) (l:=ks);rw[ba,ba,e.length_eq]at b;grind
variable {hs:List (Int×B.Fn)}
theorem OE:(hs.filter λp=>ω (p.1∉l)).map (·.1)=(hs.map (·.1)).filter λk=>ω (k∉l):=by rw[List.filter_map];rfl
variable {Mb:Mn} {lvb:List (Int×Bool)}
theorem Has.use{M':Mn}{lv':List (Int×Bool)}{F:B.Fn}(h:Has Mb M lvb lv hs)(u:Used M M' lv lv' l F)(q:l.Nodup)(a:∀k∈l,k∈hs.map (·.1)):Has Mb M' lvb lv' ((M.nx,F)::hs.filter λp=>ω (p.1∉l)):=by
 have c:∀k,k∈((M.nx,F)::hs.filter λp=>ω (p.1∉l)).map (·.1)↔k=M.nx∨(k∈hs.map (·.1)/\k∉l):=λk=>by simp
 have n:∀k∈hs.map (·.1),Mb.nx<=k/\k<M.nx:=λk i=>by obtain⟨p,j,rfl⟩:=an.1 i;exact h.ge p j
 have v:=u.nx;refine⟨h.nb,?_,λp j=>?_,λk=>?_,λp j=>?_,λk i=>?_,?_,by have:=h.nx;omega⟩
 .rw[ar,bt,OE];refine⟨λd=>?_,h.nd.filter _⟩;grind
 .rcases ay.1 j with e|e
  .subst e;have:=h.nx;omega
  grind
 .rw[u.get];by_cases e:k=M.nx
  .rw[UV e,UV ((c k).2 (.inl e))]
  .rw[GT e];by_cases b:k∈l
   .rw[UV b,GT λd=>((c k).1 d).elim e λf=>f.2 b];exact((h.nb k (n k (a k b)).1).1).symm
   .rw[GT b,h.get];grind
 .rcases ay.1 j with e|e
  .subst e;show M'.Ar M.nx=_;rw[u.Ar,UV rfl]
  .obtain⟨o,b⟩:=bo.1 e;have b:p.1∉l:=of_decide_eq_true b;have:=(h.ge p o).2;rw[u.Ar,GT (by omega),GT λf=>b f.1];exact h.Ar p o
 .have g:=λf=>i ((c k).2 f);rw[u.Ar,GT λe=>g (.inl e)];by_cases b:k∈l
  .have d:=a k b;rw[UV ⟨b,by rw[h.get,UV d];rfl⟩];exact((h.nb k (n k d).1).2).symm
  .rw[GT λf=>b f.1];exact h.Lu k λd=>g (.inr ⟨d,b⟩)
 .have s:=u.len q λk i=>by rw[h.get,UV (a k i)];rfl
  have r:=Ahb h.nd q a;rw[<-OE,aj,aj]at r;have t:=h.len;grind
theorem Has.perm{hs':List (Int×B.Fn)}(h:Has Mb M lvb lv hs)(p:hs'.Perm hs):Has Mb M lvb lv hs':=by have b:∀k,k∈hs'.map (·.1)↔k∈hs.map (·.1):=λk=>(p.map _).mem_iff;refine⟨h.nb,((p.map _).nodup_iff).2 h.nd,λq a=>h.ge q (p.mem_iff.1 a),λk=>?_,λq a=>h.Ar q (p.mem_iff.1 a),λk c=>h.Lu k λd=>c ((b k).2 d),by rw[p.length_eq];exact h.len,h.nx⟩;rw[h.get];grind
theorem Has.push{M':Mn}{lv':List (Int×Bool)}{F:B.Fn}(h:Has Mb M lvb lv hs)(u:Used M M' lv lv' [] F):Has Mb M' lvb lv' ((M.nx,F)::hs):=by have:=h.use u List.nodup_nil (by simp);grind[decide,c7]
theorem Has.two{Mb M M':Mn}{lvb lv lv':List (Int×Bool)}{hs:List (Int×B.Fn)}{a c:Int}{Fa Fc F:B.Fn}(h:Has Mb M lvb lv ((a,Fa)::(c,Fc)::hs))(u:Used M M' lv lv' [a,c] F):Has Mb M' lvb lv' ((M.nx,F)::hs):=by have b:=h.nd;simp only[ar,bt,ay,not_or]at b;have:=h.use u (by grind) (by simp);grind[decide,List.filter_cons_of_neg,c7,decide_eq_true]
end
section
structure Wk(Hb H:HY)(wb b:Nat)(M0 Mb M:Mn)(L:Ae)(lvb lv:List (Int×Bool))(hs:List (Int×B.Fn)):Prop where
 w:WK H wb b M0 M L lv
 h:Has Mb M lvb lv hs
 f:Sz wb b M0 Hb H
variable {H:HY} {wb b:Nat} {M0 M:Mn} {L:Ae} {lv:List (Int×Bool)}
theorem Wk.of(w:WK H wb b M0 M L lv):Wk H H wb b M0 M M L lv lv []:=⟨w,w.has,.refl⟩
variable {Hb:HY} {Mb:Mn} {lvb:List (Int×Bool)} {hs:List (Int×B.Fn)}
theorem Wk.ln(k:Wk Hb H wb b M0 Mb M L lvb lv hs):σ M.hs=σ M0.hs+σ lvb+σ hs:=by have:=k.w.ln;have:=k.h.len;omega
theorem Wk.step{H':HY}{M':Mn}{lv':List (Int×Bool)}{hs':List (Int×B.Fn)}(k:Wk Hb H wb b M0 Mb M L lvb lv hs)(w:WK H' wb b M0 M' L lv')(h:Has Mb M' lvb lv' hs')(f:Sz wb b M H H'):Wk Hb H' wb b M0 Mb M' L lvb lv' hs':=⟨w,h,k.f.trans (f.same k.w.bs)⟩
theorem Wk.perm{hs':List (Int×B.Fn)}(k:Wk Hb H wb b M0 Mb M L lvb lv hs)(p:hs'.Perm hs):Wk Hb H wb b M0 Mb M L lvb lv hs':=⟨k.w,k.h.perm p,k.f⟩
theorem Wk.const{yes:Bool}{X:PX}{Q:Int×Unit->UU}(k:Wk Hb H wb b M0 Mb M L lvb lv hs)(c:M.nx<576460752303423486)(h:∀M' lv' H',Wk Hb H' wb b M0 Mb M' L lvb lv' ((M.nx,λ_=>yes)::hs)->M'.nx=M.nx+1->Q (M.nx,()) () H'):qK 59 Bu (ν wb,yes,()) H Q X:=Uo k.w c λM' lv' H' a _ u f=>h M' lv' H' (k.step a (k.h.push u) f) u.nx
variable {next:Bool}
theorem Wk.Age{i:Nat}{n:Int}{X:PX}{Q:Int×Unit->UU}(k:Wk Hb H wb b M0 Mb M L lvb lv hs)(j:M.nx<576460752303423486)(e:σ M.hs<=60000)(d:LK L)(hi:i<σ L.Aa)(a:2*Fy L<=M.S.n)(c:Bl .i64 (GM L i n))(h:∀M' lv' H',Wk Hb H' wb b M0 Mb M' L lvb lv' ((M.nx,E7 (JU (Cu L i next) (GM L i n)))::hs)->M'.nx=M.nx+1->Q (M.nx,()) () H'):qK 63 Bb (ν wb,(i:Int),n,next,()) H Q X:=
 SH k.w (by omega) e d hi a c λM' lv' H' g _ u f=>h M' lv' H' (k.step g (k.h.push u) f) u.nx
theorem Wk.two{Hb H:HY}{wb b:Nat}{M0 Mb M:Mn}{L:Ae}{lvb lv:List (Int×Bool)}{hs:List (Int×B.Fn)}{a c:Int}{Fa Fc F:B.Fn}{L2:FT Y0 [.ptr,.sl I6] [.int .i64,.int .i64]}{X:PX}{Q:Int×Unit->UU}(k:Wk Hb H wb b M0 Mb M L lvb lv ((a,Fa)::(c,Fc)::hs))(n:M.nx<576460752303423486)(d:MG H b M->M.Ar a=ν Fa->M.Ar c=ν Fc->DoS b M H [a,c] F L2)(h:∀M' lv' H',Wk Hb H' wb b M0 Mb M' L lvb lv' ((M.nx,F)::hs)->M'.nx=M.nx+1->Q (M.nx,()) () H'):qK 56 A6 (ν wb,L2,[a,c],()) H Q X:=by have m:=k.h.ge (a,Fa) (by simp);have i:=k.h.ge (c,Fc) (by simp);refine Ph k.w (by omega) (by simp) (λj l=>?_) (d k.w.mg (k.h.Ar (a,Fa) (by simp)) (k.h.Ar (c,Fc) (by simp))) λM' lv' H' g _ u f=>h M' lv' H' (k.step g (k.h.two u) f) u.nx;grind
theorem Ajz{a c:Int}{Fa Fc:B.Fn}(l:MG H b M)(o:M.nx<576460752303423487)(n:σ M.hs<=60000)(k:M.Ar a=ν Fa)(m:M.Ar c=ν Fc):DoS b M H [a,c] (PA Fa Fc) (λ(a:Option Nat×List Int×Unit)(H:HY)(Q:Int×Int×Unit->HP)(X:Nat->Lf Y0.D->HP)=>qK 28 Ck (a.1,a.2.1,()) H (λ(b:Int×Int×Unit)(_:Unit)(d:HY)=>Q (b.1,b.2.1,()) d) X):=λQ X h=>
 Zp l o n (by simp) (Gs:=[Fa,Fc]) (by grind) λj d g i f=>h j d g (by
  have e:[Fa,Fc].foldl PA (λ_=>ψ)=PA Fa Fc:=by funext x;rfl
  grind) f
theorem Ahf{a c:Int}{Fa Fc:B.Fn}(l:MG H b M)(o:M.nx<576460752303423487)(n:σ M.hs<=60000)(k:M.Ar a=ν Fa)(m:M.Ar c=ν Fc):DoS b M H [a,c] (CJ Fa Fc) (λ(a:Option Nat×List Int×Unit)(H:HY)(Q:Int×Int×Unit->HP)(X:Nat->Lf Y0.D->HP)=>qK 25 Ck (a.1,a.2.1,()) H (λ(b:Int×Int×Unit)(_:Unit)(d:HY)=>Q (b.1,b.2.1,()) d) X):=λQ X h=>
 Si l o n (by simp) (Gs:=[Fa,Fc]) (by grind) λj d g i f=>h j d g (by
  have e:[Fa,Fc].foldl CJ (λ_=>τ)=CJ Fa Fc:=by funext x;rfl
  grind) f
def FW(v:Al):Int:=if v.Bool=τ then 0 else v.Lo
def QS(v:Al):Int:=if v.Bool=τ then 1 else v.Hi
structure JJ(L:Ae):Prop extends LK L where
 fit:∀i(h:i<σ L.Aa)(h':i<σ L.Bits),FW L.Aa[i]<=QS L.Aa[i]/\QS L.Aa[i]-FW L.Aa[i]<2^L.Bits[i].toNat/\-1152921504606846976<=FW L.Aa[i]/\QS L.Aa[i]<=1152921504606846976
def Ym(L:Ae)(next:Bool)(i:Nat)(n:Int):B.Fn:=E7 (JU (Cu L i next) (GM L i n))
def Aou(l:List B.Fn):B.Fn:=λa=>l.any λF=>F a
def Afc(l:List B.Fn):B.Fn:=λa=>l.all λF=>F a
theorem Ala{l:List B.Fn}{F:B.Fn}:PA (Aou l) F=Aou (l++[F]):=by grind[PA,Aou]
theorem Ahp{l:List B.Fn}{F:B.Fn}:CJ (Afc l) F=Afc (l++[F]):=by grind[CJ,Afc]
def Rr(L:Ae)(next:Bool)(i k:Nat):B.Fn:=Aou ((ao k).map λ(j:Nat)=>Ym L next i ((L.Aa[i]?.map FW).getD 0+(j:Int)))
def Oy(v:Al):Nat:=(QS v-FW v+1).toNat
def Io(L:Ae)(next:Bool)(k:Nat):B.Fn:=Afc ((ao k).map λ(i:Nat)=>Rr L next i ((L.Aa[i]?.map Oy).getD 0))
theorem Af8{i k:Nat}:PA (Rr L next i k) (Ym L next i ((L.Aa[i]?.map FW).getD 0+(k:Int)))=Rr L next i (k+1):=by unfold Rr;rw[Ala,br,ah];rfl
theorem Amo{k:Nat}:CJ (Io L next k) (Rr L next k ((L.Aa[k]?.map Oy).getD 0))=Io L next (k+1):=by unfold Io;rw[Ahp,br,ah];rfl
end
section
variable {L:Ae} {i:Nat}
theorem LK.A1f(h:LK L)(hi:i<σ L.Bits):0<=L.Bits[i]/\L.Bits[i]<=Fy L:=by have b:=h.b0 i hi;have c:=h.sum (k:=i) (by omega);have a:=h.Pq (j:=i+1) (k:=σ L.Bits) (by omega) (aq _);grind[Ek,Fy]
theorem DD.n{M M':Mn}(h:DD M M'):M'.S.n=M.S.n:=by unfold B9.n;rw[h.tb]
theorem JJ.cnt(h:JJ L)(g:2*Fy L<=8)(hi:i<σ L.Aa):FW L.Aa[i]<=QS L.Aa[i]/\QS L.Aa[i]-FW L.Aa[i]<16/\-1152921504606846976<=FW L.Aa[i]/\QS L.Aa[i]<=1152921504606846976/\(Oy L.Aa[i]:Int)=QS L.Aa[i]-FW L.Aa[i]+1:=by
 have a:i<σ L.Bits:=by rw[h.lb];exact hi
 obtain⟨c,f,d,j⟩:=h.fit i hi a;have k:=h.toLK.A1f a;have b:(2:Int)^L.Bits[i].toNat<=16:=by
  have:L.Bits[i].toNat=0∨L.Bits[i].toNat=1∨L.Bits[i].toNat=2∨L.Bits[i].toNat=3∨L.Bits[i].toNat=4:=by omega
  rcases this with e|e|e|e|e<;>rw[e]<;>decide
 grind[Oy]
theorem JJ.Age(h:JJ L)(b:2*Fy L<=8)(hi:i<σ L.Aa){n:Int}(d:FW L.Aa[i]<=n)(e:n<=QS L.Aa[i]):Bl .i64 (GM L i n):=by
 have c:=h.cnt b hi;unfold GM;rw[a7 hi];simp only;split
 .grind[Aq]
 .rename_i a;have f:FW L.Aa[i]=L.Aa[i].Lo:=GT a;grind[Aq]
theorem Nb{wb b:Nat}{M0 M:Mn}{lv:List (Int×Bool)}{next:Bool}{H:HY}{X:PX}{Q:Int×Unit->UU}(w:WK H wb b M0 M L lv)(hn:M.nx<576460752303420000)(hl:σ M.hs<=59900)(B:JJ L)(t:2*Fy L<=M.S.n)(h:∀M' lv' H'(r:Int),Wk H H' wb b M0 M M' L lv lv' [(r,Io L next (σ L.Aa))]->M'.nx<=M.nx+3000->Q (r,()) () H'):qK 67 Bu (ν wb,next,()) H Q X:=by
 refine wF Tryz.f67 {lp:=[(8,⟨[(8,.one (.dat I6)),(11,.one (.dat I6))],[0,1,5,6,10,18,19,20],τ⟩),(3,⟨[(5,.one (.dat I6)),(20,.nat)],[0,1,18,19],τ⟩)]} (?_:qK 59 Bu ((ν wb),τ,()) H (λ(b:qV)_ G=>∃(b1:Nat),(ν wb)=ν b1/\∃(x:Am),letI E:=σ x.l.Aa;G b1=ν (Ob.st Co x)/\(E<=2^63-1->x=x/\∃(V:Nat->Int×Nat×UT->HP),(∃(n:Nat),V n (b.1,0,()) G)/\∀n x1 H,V n x1 H->(x1.2.1<E->x1.2.1<=2^63-1->∃(h:x1.2.1<E),qK 59 Bu ((ν wb),ψ,()) H (λ(b:qV)_ G=>qK 133 Fp (x.l.Aa[x1.2.1],()) G (λ(b2:Int×qV)_ G=>∃(V1:Nat->Int×qV->HP),(∃(n:Nat),V1 n (b.1,b2.1,()) G)/\∀n1 x H,V1 n1 x H->(x.2.1<=b2.2.1->qK 63 Bb ((ν wb),(x1.2.1:Int),x.2.1,next,()) H (λ(b:qV)_ G=>qK 56 A6 ((ν wb),λ(a:Option Nat×List Int×UT)(H:HY)(Q:Int×qV->HP)(X:Nat->Lf Y0.D->HP)=>qK 28 Ck (a.1,a.2.1,()) H (λ(b:Int×qV)(x:UT)(G:HY)=>Q (b.1,b.2.1,()) G) X,[x.1,b.1],()) G (λ(b:qV)_ G=>IK x.2.1->IK (x.2.1+1)/\∃m,m<n1/\V1 m (b.1,x.2.1+1,()) G) X) X)/\(¬x.2.1<=b2.2.1->qK 56 A6 ((ν wb),λ(a:Option Nat×List Int×UT)(H:HY)(Q:Int×qV->HP)(X:Nat->Lf Y0.D->HP)=>qK 25 Ck (a.1,a.2.1,()) H (λ(b:Int×qV)(x:UT)(G:HY)=>Q (b.1,b.2.1,()) G) X,[x1.1,x.1],()) H (λ(b:qV)_ G=>x1.2.1+1<=2^63-1/\∃m,m<n/\V m (b.1,x1.2.1+1,()) G) X)) X) X)/\(¬x1.2.1<E->Q (x1.1,()) () H))) X);have Z:2*Fy L<=8:=by have:=w.mg.n8;omega
 have hln:=B.ln;have hwl:=w.ln;have hS:∀{M':Mn},DD M0 M'->M'.S.n=M.S.n:=λe=>e.n.trans w.bs.n.symm;refine(Wk.of w).const (by omega) λV G H1 U nx1=>?_;refine⟨wb,rfl,_,U.w.ob,λ_=>⟨rfl,λn z E=>n=σ L.Aa-z.2.1/\z.2.1<=σ L.Aa/\∃o f,Wk H E wb b M0 M o L lv f [(z.1,Io L next z.2.1)]/\o.nx<=M.nx+1+40*(z.2.1:Int),⟨_,rfl,ag _,V,G,U,by omega⟩,?_⟩⟩;rintro n ⟨d,i,u⟩ E ⟨s,v,o,f,D,y⟩;have hn':n=σ L.Aa-i:=s;have hi:i<=σ L.Aa:=v;have D:Wk H E wb b M0 M o L lv f [(d,Io L next i)]:=D;have y:o.nx<=M.nx+1+40*(i:Int):=y;refine⟨λa _=>?_,λa=>?_⟩
 .have a:i<σ L.Aa:=a;obtain⟨c1,c2,c3,c4,c5⟩:=B.cnt Z a;have S:(L.Aa[i]?.map FW).getD 0=FW L.Aa[i]:=by grind
  have I:(L.Aa[i]?.map Oy).getD 0=Oy L.Aa[i]:=by grind
  refine⟨a,D.const (by omega) λM3 P H3 k3 nx3=>OK ⟨λn z K=>∃j:Nat,z.2.1=FW L.Aa[i]+(j:Int)/\j<=Oy L.Aa[i]/\n=Oy L.Aa[i]-j/\∃p l,Wk H K wb b M0 M p L lv l [(z.1,Rr L next i j),(d,Io L next i)]/\p.nx<=M.nx+2+40*(i:Int)+2*(j:Int),⟨_,0,?_,ag _,rfl,M3,P,k3,by omega⟩,?_⟩⟩
  .grind[FW]
  rintro n1 ⟨so,x,u2⟩ K ⟨j,J,hj,hn1,p,l,m,nx4⟩;have hx:x=FW L.Aa[i]+(j:Int):=J;subst hx;have m:Wk H K wb b M0 M p L lv l [(so,Rr L next i j),(d,Io L next i)]:=m;have l4:=m.ln;simp only[bk,cl]at l4;refine⟨λc=>?_,λc=>?_⟩
  .have c:FW L.Aa[i]+(j:Int)<=QS L.Aa[i]:=c;refine m.Age (by omega) (by omega) B.toLK a (by rw[hS m.w.bs];exact t) (B.Age Z a (by omega) c) λq g Y C R=>?_;have l5:=C.ln;simp only[bk,cl]at l5;refine(C.perm (.swap _ _ _)).two (by omega) (λF T O=>Ajz F (by omega) (by omega) T O) λW A H6 k6 nx6 _=>⟨Aq.2 ?_,Oy L.Aa[i]-(j+1),by omega,j+1,?_,by omega,rfl,W,A,?_,by omega⟩
   .omega
   .grind
   .have e:=Af8 (L:=L) (next:=next) (i:=i) (k:=j);rw[S]at e;show Wk H H6 wb b M0 M W L lv A [(q.nx,Rr L next i (j+1)),(d,Io L next i)];rw[<-e];exact k6
  .have c:¬FW L.Aa[i]+(j:Int)<=QS L.Aa[i]:=c;have N:j=Oy L.Aa[i]:=by omega
   subst N;refine(m.perm (.swap _ _ _)).two (by omega) (λF T O=>Ahf F (by omega) (by omega) T O) λq g Y C R=>⟨by grind,σ L.Aa-(i+1),by omega,rfl,by grind,q,g,?_,?_⟩
   all_goals grind[Amo,Io]
 grind
end
structure Got(M M':Mn)(r:Int)(F:B.Fn):Prop where
 bs:DD M M'
 ge:M.nx<=r
 nx:M.nx<=M'.nx
 ln:σ M'.hs=σ M.hs+1
 Ar:∀k,M'.Ar k=if k=r then ν F else M.Ar k
def FrO(b:Nat)(M:Mn)(H H':HY):Prop:=∀c,H c≠δ->G5 b M c->H' c=H c
theorem Got.Ao2{Hb H:HY}{wb b:Nat}{M Mx M':Mn}{L:Ae}{lv:List (Int×Bool)}{r:Int}{F:B.Fn}(k:Wk Hb H wb b M M Mx L [] lv [(r,F)])(e:Akl M Mx M' lv [r]):Got M M' r F:=by
 have g:=k.h.ge (r,F) (by simp);have h:=k.h.len;have c:∀j,Ag lv j=if j=r then ν τ else δ:=λj=>by rw[k.h.get];simp [Ag]
 refine⟨k.w.bs.trans e.bs,g.1,by rw[e.nx];omega,?_,λj=>?_⟩
 .rw[e.ln];have:lv=[(r,τ)]:=by
   match lv,h,c with
   | [(a,t)],_,c=>
    have d:=c r
    rw[UV rfl]at d
    grind[Ag]
  grind
 .rw[e.Ar,c];by_cases f:j=r
  .subst f;rw[UV rfl,UV rfl,GT (by simp)];exact k.h.Ar (j,F) (by simp)
  .rw[GT f,GT f,GT (by simp)];exact k.h.Lu j (by simp [f])
theorem XZ{b:Nat}{M:Mn}{L:Ae}{next:Bool}{H:HY}{X:PX}{Q:Int×Int×Unit->UU}(q:MG H b M)(A:M.nx<576460752303420000)(B:σ M.hs<=59900)(p:JJ L)(v:M.S.n<2*Fy L->Q (0,9,()) () H)(C:2*Fy L<=M.S.n->∀M' H' r,MG H' b M'->Got M M' r (Io L next (σ L.Aa))->M'.nx<=M.nx+3000->FrO b M H H'->Q (r,0,()) () H'):qK 20 Nr (ν b,L,next,()) H Q X:=by
 refine wF Tryz.f20 {im:=[4]} (?_:qK 40 Ix ((ν b),L,()) H (λ(a:Option Nat×qV)_ G=>(¬a.2.1=0->Q (0,a.2.1,()) () G)/\(¬¬a.2.1=0->qK 67 Bu (a.1,next,()) G (λ(b1:qV)_ G=>qK 43 Em (a.1,[b1.1],()) G (λ(a:qV)_ G=>Q (b1.1,a.1,()) () G) X) X)) X);refine MD q p.toLK (λg=>⟨λ_=>v g,λh=>qG (show ¬(9:Int)=0 by decide) h⟩) λa s E k w t=>⟨λh=>qG rfl h,λ_=>?_⟩
 refine Nb w A B p a λG D F r f i=>?_;refine ML f.w (by omega) (by simp) λy z u n x=>?_;refine C a y z r u (Got.Ao2 f n) (by rw[n.nx];exact i) λc l m=>?_;have d:c≠s:=λe=>l (by grind);have j:=t c d;have o:=f.f c (by grind) d m;rw[x c (by grind) d (m.same f.w.bs),o,j]
section
section
variable {κ β:Type} [DecidableEq κ]
theorem QO{k:κ}{v:β}:∀{m:List (κ×β)},(C4 m k v).Perm ((k,v)::Dl m k)
 | []=>.refl _
 |p::m=>by
  unfold C4 Dl;split
  .simp_all
  .exact(c0 p QO).trans (.swap _ _ _)
theorem Aek{k:κ}{v:β}:∀{m:List (κ×β)},Ag m k=ν v->m.Perm ((k,v)::Dl m k)
 |p::m,h=>by
  unfold Ag at h;unfold Dl;split
  .rename_i e;rw[UV e]at h;cases h;subst e;rfl
  .rename_i e;rw[GT e]at h;exact(c0 p (Aek h)).trans (.swap _ _ _)
theorem UC{k:κ}:∀{m:List (κ×β)},Ag m k=δ->Dl m k=m
 | [],_=>rfl
 |p::m,h=>by unfold Ag at h;unfold Dl;split at h;all_goals simp_all[UC]
end
def JH(m:List (Int×Int))(G:Int->B.Fn):List (Int×B.Fn):=m.map λp=>(p.2,G p.1)
def Re(G:Int->B.Fn)(n:Int)(F:B.Fn):Int->B.Fn:=λj=>if j=n then PA (G n) F else G j
theorem Aej{m:List (Int×Int)}{G:Int->B.Fn}{n:Int}{F:B.Fn}(h:Pc m):JH (Dl m n) (Re G n F)=JH (Dl m n) G:=by
 refine List.map_congr_left λp c=>?_;have b:p.1≠n:=λe=>by have a:=FV (T4 h n) c;simp_all[Jd]
 show (p.2,Re G n F p.1)=_;unfold Re;rw[GT b]
variable {H:HY} {wb b r:Nat} {M0 M:Mn} {L:Ae} {lv:List (Int×Bool)}
theorem WK.Ac3{y:Ob Y0}(w:WK H wb b M0 M L lv)(c:r≠wb)(n:G5 b M r):WK (Ac H r y) wb b M0 M L lv:=
 ⟨by rw[Ad _ _ (Ne.symm c)];exact w.ob,w.mg.at_ n λd a=>Ad _ _ a,w.bs,w.n0,w.nx,w.nd,w.tr,w.lo,w.hi,w.ln⟩
theorem Wk.Ac3{Hb:HY}{Mb:Mn}{lvb:List (Int×Bool)}{hs:List (Int×B.Fn)}{y:Ob Y0}(k:Wk Hb H wb b M0 Mb M L lvb lv hs)(f:r≠wb)(n:G5 b M0 r)(d:Hb r=δ):Wk Hb (Ac H r y) wb b M0 Mb M L lvb lv hs:=
 ⟨k.w.Ac3 f (n.same k.w.bs),k.h,λc a h g=>by rw[Ad _ _ λe=>a (by grind)];exact k.f c a h g⟩
theorem Vm{Hb:HY}{Mb:Mn}{lvb:List (Int×Bool)}{hs:List (Int×B.Fn)}{m:List (Int×Int)}{G:Int->B.Fn}{n h:Int}{F:B.Fn}{X:PX}{Q:Unit->UU}(k:Wk Hb H wb b M0 Mb M L lvb lv ((h,F)::(JH m G++hs)))(N:M.nx<576460752303423486)(S:σ M.hs<=60000)(x:H r=ν (.mp I6 I6 m))(o:r≠wb)(l:G5 b M0 r)(u:Hb r=δ)(w:Pc m)(K:∀j,Ag m j=δ->G j=λ_=>ψ)(f:∀M' lv' H' m',Wk Hb H' wb b M0 Mb M' L lvb lv' (JH m' (Re G n F)++hs)->M'.nx<=M.nx+1->H' r=ν (.mp I6 I6 m')->Pc m'->(∀j,Ag m' j=δ↔(Ag m j=δ/\j≠n))->(∀c,H c≠δ->c≠r->c≠wb->G5 b M0 c->H' c=H c)->Q () () H'):qK 134 BZ (ν wb,ν r,n,h,()) H Q X:=by
 refine wF Tryz.f134 {} (?_:letI E:=Ty.int .i64;∃(c:Nat),(ν r)=ν c/\∃(m:List (Int×Int)),letI F:=(Ag m n).isSome=τ;H c=ν (Ob.mp E E m)/\(F->qK 56 A6 ((ν wb),λ(a:Option Nat×List Int×UT)(H:HY)(Q:Int×qV->HP)(X:Nat->Lf Y0.D->HP)=>qK 28 Ck (a.1,a.2.1,()) H (λ(b:Int×qV)(x:UT)(G:HY)=>Q (b.1,b.2.1,()) G) X,[(Ag m n).getD 0,h],()) H (λ(b:qV)_ G=>∃(c:Nat),(ν r)=ν c/\∃(m:List (Int×Int)),G c=ν (Ob.mp E E m)/\Q () () (Ac G c (Ob.mp E E (C4 m n b.1)))) X)/\(¬F->∃(c:Nat),(ν r)=ν c/\∃(m:List (Int×Int)),H c=ν (Ob.mp E E m)/\Q () () (Ac H c (Ob.mp E E (C4 m n h)))));have g:∀v j,Ag (C4 m n v) j=δ↔(Ag m j=δ/\j≠n):=λv j=>by grind[Cw]
 refine⟨r,rfl,m,x,λd=>?_,λd=>?_⟩
 .have d:(Ag m n).isSome=τ:=d;obtain⟨U,t⟩:=ap.1 d;rw[t,aw];have T:Wk H H wb b M0 Mb M L lvb lv ((U,G n)::(h,F)::(JH (Dl m n) G++hs)):=by refine⟨k.w,k.h.perm ?_,.refl⟩;refine(cm _ _ _).trans (c0 _ ?_);exact(((Aek t).map λp=>(p.2,G p.1)).append_right hs).symm
  refine T.two N (λO I V=>Ajz O (by omega) S I V) λM' lv' H' q R=>?_;have y:H' r=ν (.mp I6 I6 m):=by rw[q.f r (by grind) o l];exact x
  refine⟨r,rfl,m,y,f M' lv' _ (C4 m n M.nx) ?_ (by omega) (Ah _ _ _) (K8 w _ _) (g _) λc C z E D=>by rw[Ad _ _ z];exact q.f c C E D⟩;refine Wk.Ac3 (Hb:=Hb) ⟨q.w,q.h.perm ?_,k.f.trans q.f⟩ o l u;have J:(JH (C4 m n M.nx) (Re G n F)).Perm ((M.nx,PA (G n) F)::JH (Dl m n) G):=by
   have i:=(QO (k:=n) (v:=M.nx) (m:=m)).map λp=>(p.2,Re G n F p.1)
   rw[ar]at i;have A:Re G n F n=PA (G n) F:=UV rfl;have s:=Aej (G:=G) (n:=n) (F:=F) w;grind[JH]
  exact J.append_right hs
 .have d:¬(Ag m n).isSome=τ:=d;have t:Ag m n=δ:=by simp_all
  refine⟨r,rfl,m,x,f M lv _ (C4 m n h) ?_ (by omega) (Ah _ _ _) (K8 w _ _) (g _) λc C z E D=>Ad _ _ z⟩;refine(k.perm ?_).Ac3 o l u;have P:PA (G n) F=F:=by grind[PA]
  have i:=(QO (k:=n) (v:=h) (m:=m)).map λp=>(p.2,Re G n F p.1)
  rw[ar]at i;have A:Re G n F n=F:=(UV rfl).trans P;have s:=Aej (G:=G) (n:=n) (F:=F) w;unfold JH at s ⊢;rw[s,A,UC t]at i;exact i.append_right hs
end
section
variable {Mb M:Mn} {lvb lv:List (Int×Bool)} {hs1:List (Int×B.Fn)}
theorem Has.trans{Ma:Mn}{lva:List (Int×Bool)}{hs2:List (Int×B.Fn)}(h:Has Ma Mb lva lvb hs1)(k:Has Mb M lvb lv hs2):Has Ma M lva lv (hs2++hs1):=by
 have m:∀j∈hs1.map (·.1),Ma.nx<=j/\j<Mb.nx:=λj d=>by obtain⟨p,f,rfl⟩:=an.1 d;exact h.ge p f
 have i:∀j∈hs2.map (·.1),Mb.nx<=j/\j<M.nx:=λj d=>by obtain⟨p,f,rfl⟩:=an.1 d;exact k.ge p f
 have o:=h.nx;have q:=k.nx;refine⟨h.nb,?_,λp f=>?_,λj=>?_,λp f=>?_,λj d=>?_,?_,by omega⟩
 .rw[ah,ci];exact⟨k.nd,h.nd,λa l c n e=>by grind⟩
 .rcases ak.1 f with e|e
  .have:=k.ge p e;omega
  .have:=h.ge p e;omega
 .rw[k.get,h.get,ah];grind
 .rcases ak.1 f with e|e
  .exact k.Ar p e
  .rw[k.Lu _ λb=>by have:=(i _ b).1;have:=(h.ge p e).2;omega];exact h.Ar p e
 .rw[ah]at d;rw[k.Lu j λb=>d (ac _ b),h.Lu j λb=>d (ad _ b)]
 .rw[k.len,h.len,bf];omega
theorem Wk.trans{Ha Hb H:HY}{wb b:Nat}{M0 Ma:Mn}{L:Ae}{lva:List (Int×Bool)}{hs2:List (Int×B.Fn)}(k:Wk Ha Hb wb b M0 Ma Mb L lva lvb hs1)(a:Wk Hb H wb b M0 Mb M L lvb lv hs2):Wk Ha H wb b M0 Ma M L lva lv (hs2++hs1):=⟨a.w,k.h.trans a.h,k.f.trans a.f⟩
theorem Wk.drop{Hb H:HY}{wb b:Nat}{M0:Mn}{L:Ae}{hs:List (Int×B.Fn)}{l:List Int}{X:PX}{Q:Unit->UU}(k:Wk Hb H wb b M0 Mb M L lvb lv (hs1++hs))(E:M.nx<576460752303423486)(A:σ l<=1000000)(c:l.Perm (hs1.map (·.1)))(h:∀M' lv' H',Wk Hb H' wb b M0 Mb M' L lvb lv' hs->M'.nx=M.nx->Sz wb b M0 H H'->Q () () H'):qK 128 AI (ν wb,l,()) H Q X:=by
 have o:=k.h.nd;rw[ah,ci]at o;have i:∀j,j∈l↔j∈hs1.map (·.1):=λj=>c.mem_iff;have v:∀j∈(hs1++hs).map (·.1),Mb.nx<=j/\j<M.nx:=λj m=>by obtain⟨p,c,rfl⟩:=an.1 m;exact k.h.ge p c
 have g:∀j∈l,(Ag lv j).isSome=τ:=λj m=>by rw[k.h.get,UV (by rw[ah];exact ac _ ((i j).1 m))];rfl
 refine SJ k.w (by omega) A λM' lv' H' C r D u x s f=>h M' lv' H' ⟨C,?_,k.f.trans (f.same k.w.bs)⟩ r (f.same k.w.bs);refine⟨k.h.nb,o.2.1,λp c=>?_,λj=>?_,λp c=>?_,λj m=>?_,?_,by have:=k.h.nx;omega⟩
 .have:=k.h.ge p (ad _ c);omega
 .rw[D,k.h.get,ah];by_cases e:j∈l
  .have n:=(i j).1 e;rw[UV e,GT λt=>o.2.2 j n j t rfl];exact((k.h.nb j (v j (by rw[ah];exact ac _ n)).1).1).symm
  grind
 .have z:p.1∈hs.map (·.1):=bb c;rw[u,GT λd=>o.2.2 p.1 ((i _).1 d.1) p.1 z rfl];exact k.h.Ar p (ad _ c)
 .rw[u];by_cases e:j∈l
  .rw[UV ⟨e,g j e⟩];exact((k.h.nb j (v j (by grind)).1).2).symm
  .rw[GT λd=>e d.1];refine k.h.Lu j λd=>?_;grind
 .have F:=s ((c.nodup_iff).2 o.1) g;have y:=k.h.len;have w:=c.length_eq;grind
end
section
variable {H:HY} {b:Nat}
theorem Wk.fresh{Hb:HY}{wb r:Nat}{M0 Mb M:Mn}{L:Ae}{lvb lv:List (Int×Bool)}{hs:List (Int×B.Fn)}{y:Ob Y0}(k:Wk Hb H wb b M0 Mb M L lvb lv hs)(a:H r=δ):Wk Hb (Ac H r y) wb b M0 Mb M L lvb lv hs:=by
 have f:r≠wb:=λe=>by rw[e,k.w.ob]at a;cases a
 have d:G5 b M r:=k.w.mg.h.notM a;refine⟨k.w.Ac3 f d,k.h,λc g i h=>?_⟩;by_cases e:c=r
 .subst e;have:=k.f c g i h;grind
 .rw[Ad _ _ e];exact k.f c g i h
theorem Wk.Ars{Hb:HY}{wb:Nat}{M0 Mb M:Mn}{L:Ae}{lvb lv:List (Int×Bool)}{hs:List (Int×B.Fn)}{p q:Int}{Fa Fc:B.Fn}{X:PX}{R:Int×Unit->UU}(k:Wk Hb H wb b M0 Mb M L lvb lv hs)(r:M.nx<576460752303423486)(l:σ M.hs<=60000)(n:M.Ar p=ν Fa)(m:M.Ar q=ν Fc)(h:∀M' lv' a,Wk Hb a wb b M0 Mb M' L lvb lv' ((M.nx,CJ Fa Fc)::hs)->M'.nx=M.nx+1->Sz wb b M0 H a->R (M.nx,()) () a):qK 25 Ck (ν b,[p,q],()) H (λ(j:Int×Int×Unit)(_:Unit)(a:HY)=>qK 54 Bo (ν wb,j.1,j.2.1,()) a R X) X:=by
 refine Si k.w.mg (by omega) l (by simp) (Gs:=[Fa,Fc]) (by grind) λM' a g d f=>?_;have e:[Fa,Fc].foldl CJ (λ_=>τ)=CJ Fa Fc:=by funext x;rfl
 rw[e]at d;exact KG k.w g d f λlv' c o _ u i=>h M' lv' c (k.step o (k.h.push u) i) u.nx (i.same k.w.bs)
theorem V3{m:List (Int×Int)}{X:PX}{D:Nat->Nat->Loop->HP}{w:Option Nat}{P:Nat->Nat->Loop->Unit->UU}(q:H b=ν (.mp I6 I6 m))(n:σ m<=1000000)(h:∀c l r d x,H l=δ->x.Perm (m.map (·.2))->qK 128 AI (w,x,()) (Ac H l (Ob.lp d)) (P c l r) X):∀(c:Nat),H c=δ->∀(l:Nat)(r:Loop),Ac H c (Ob.st Ap []) l=δ->qK 235 AF (YL l c r,ν b,()) (Ac (Ac H c (Ob.st Ap [])) l (Ob.lp r)) (λ(_ _:Unit)(g:HY)=>(g l=ν (Ob.lp r)/\∀(d:Loop),∃(x:List Int),Ac g l (Ob.lp d) c=ν (Ob.st Ap x)/\qK 128 AI (w,x,()) (CI (Ac g l (Ob.lp d)) c) (P c l r) X)∨D c l r g) X:=by
 intro c j l r i;have a:l≠c:=λe=>by grind[Ac]
 have f:H l=δ:=by simp_all[Ac]
 refine Af5 q j f a n λx p=>.inl ⟨by simp [Ac],λd=>⟨x,by simp [Ac,Ne.symm a],?_⟩⟩;have o:CI (Ac (Ac (Ac H c (Ob.st Ap x)) l (Ob.lp r)) l (Ob.lp d)) c=Ac H l (Ob.lp d):=by funext k;simp_all[Ac,CI,Ne.symm]
 grind
def VV(L:Ae)(n0:Int)(t:Ab)(G:Int->B.Fn)(bd c pk:Nat):Prop:=∀{wb b:Nat}{M0 M:Mn}{lv:List (Int×Bool)}{H:HY}{X:PX}{Q:Option Nat×Unit->UU},WK H wb b M0 M L lv->M.nx+(c:Int)<576460752303420000->σ M.hs+pk<=59900->M.S.n=n0->(∀M' lv' H' r m,Wk H H' wb b M0 M M' L lv lv' (JH m G)->H r=δ->H' r=ν (.mp I6 I6 m)->Pc m->(∀j,Ag m j=δ->G j=λ_=>ψ)->σ m<=bd->M'.nx<=M.nx+(c:Int)->Q (ν r,()) () H')->qK 60 BO (ν wb,t,()) H Q X
end
theorem Ak9{Hb H:HY}{wb b:Nat}{M0 Mb M:Mn}{L:Ae}{lvb lv:List (Int×Bool)}{hs:List (Int×B.Fn)}{hp hq x y:Int}{Fa Fc:B.Fn}{L2:Int×Int×Int×Unit->HY->(Unit->HP)->PX->Prop}{X:PX}{N:HP}(k:Wk Hb H wb b M0 Mb M L lvb lv hs)(Q:M.nx<576460752303423480)(K:σ M.hs<=60000)(z:M.Ar hp=ν Fa)(D:M.Ar hq=ν Fc)(i:(∀a,CJ Fa Fc a=ψ)->∀M' lv' c,Wk Hb c wb b M0 Mb M' L lvb lv' hs->M'.nx=M.nx+1->Sz wb b M0 H c->N c)(n:(∃a,CJ Fa Fc a=τ)->∀M' lv' c,Wk Hb c wb b M0 Mb M' L lvb lv' ((M.nx,CJ Fa Fc)::hs)->M'.nx=M.nx+1->Sz wb b M0 H c->L2 (x,y,M.nx,()) c (λ(_:Unit)(m:HY)=>N m) X):qK 25 Ck (ν b,[hp,hq],()) H (λ(b:Int×Int×Unit)(_:Unit)(c:HY)=>qK 54 Bo (ν wb,b.1,b.2.1,()) c (λ(b:Int×Unit)(_:Unit)(c:HY)=>∃(d:Am),c wb=ν (Ob.st Co d)/\d=d/\qK 29 MR (d.m,b.1,(0:Int),()) c (λ(f:Bool×Int×Unit)(_:Unit)(c:HY)=>(f.1=τ->qK 128 AI (ν wb,[b.1],()) c (λ(_ _:Unit)(c:HY)=>N c) X)/\(¬f.1=τ->(¬f.2.1=(0:Int)->qK 128 AI (ν wb,[b.1],()) c (λ(_ _:Unit)(c:HY)=>N c) X)/\(¬¬f.2.1=(0:Int)->L2 (x,y,b.1,()) c (λ(_:Unit)(c:HY)=>N c) X))) X) X) X:=by
 refine k.Ars (by omega) K z D λM' lv' c g r u=>⟨_,g.w.ob,rfl,?_⟩
 have j:=g.h.Ar (M.nx,CJ Fa Fc) (by simp);have j:M'.Ar M.nx=ν (CJ Fa Fc):=j;refine Ad3 g.w.mg.h g.w.mg.i (λC=>?_) λF G l v t s=>?_
 .rcases C with e|e
  .grind
  .rw[g.w.mg.i.Apr]at e;cases e
 .have l:M'.Ar M.nx=ν F:=l;rw[j]at l;cases l;rw[g.w.mg.i.Apr]at v;cases v;refine⟨λp=>?_,λh=>⟨λA=>qG rfl A,λ_=>?_⟩⟩
  .have O:=s.1 p;refine Wk.drop (hs1:=[(M.nx,CJ Fa Fc)]) (hs:=hs) g (by omega) (by simp) (.refl _) λP q w E I J=>?_;exact i (λa=>congrFun O a) P q w E (by omega) (u.trans J)
  grind
theorem Wh{m:List (Int×Int)}{G:Int->B.Fn}{j:Int}{h:Int}(e:Ag m j=ν h):(h,G j)∈JH m G:=an.2 ⟨(j,h),Jw e,rfl⟩
theorem Q9{m:List (Int×Int)}(_:Pc m){j:Int}(a:j∈Au m):∃h,Ag m j=ν h/\(Ag m j).getD 0=h:=by
 have b:=(Dz m).mem_iff.1 a;cases e:Ag m j with
 |none=>grind[En]
 |some h=>simp
structure PrS(Hb H:HY)(wb b:Nat)(M0 Mb M:Mn)(L:Ae)(lvb lv:List (Int×Bool))(hsU ctx:List (Int×B.Fn))(Ga Gc:Int->B.Fn)(mp mq:List (Int×Int))(rp rq:Nat)(U:List (Int×Int)->HY->List (Int×B.Fn)->Prop)(ds:List (Int×Int)):Prop where
 k:Wk Hb H wb b M0 Mb M L lvb lv (hsU++(JH mq Gc++(JH mp Ga++ctx)))
 u:U ds H hsU
 p:H rp=ν (.mp I6 I6 mp)
 q:H rq=ν (.mp I6 I6 mq)
structure DoU(Hb:HY)(wb b:Nat)(M0 Mb:Mn)(L:Ae)(lvb:List (Int×Bool))(Ga Gc:Int->B.Fn)(U:List (Int×Int)->HY->List (Int×B.Fn)->Prop)(ub bu cu:Nat)(L2:Int×Int×Int×Unit->HY->(Unit->HP)->PX->Prop):Prop where
 le:∀ds H hs,U ds H hs->σ hs<=bu
 st:∀ds H H' hs,U ds H hs->Sz wb b M0 H H'->U ds H' hs
 skip:∀ds H hs x y,U ds H hs->(∀a,CJ (Ga x) (Gc y) a=ψ)->U (ds++[(x,y)]) H hs
 L2:∀(ds:List (Int×Int))(H:HY)(hs:List (Int×B.Fn))(M:Mn)(lv:List (Int×Bool))(x y h:Int)(ctx:List (Int×B.Fn))(N:HP)(X:PX),U ds H hs->(∃a,CJ (Ga x) (Gc y) a=τ)->Wk Hb H wb b M0 Mb M L lvb lv ((h,CJ (Ga x) (Gc y))::(hs++ctx))->M.nx+(cu:Int)<576460752303423470->σ M.hs<=59990->
  (∀M' lv' H' hs',Wk Hb H' wb b M0 Mb M' L lvb lv' (hs'++ctx)->U (ds++[(x,y)]) H' hs'->M'.nx<=M.nx+(cu:Int)->(∀c,H c≠δ->c≠ub->c≠wb->G5 b M0 c->H' c=H c)->N H')->L2 (x,y,h,()) H (λ_ H'=>N H') X
theorem Atr{Hb H:HY}{wb b rp rq ub bu o:Nat}{M0 Mb M:Mn}{L:Ae}{lvb lv:List (Int×Bool)}{hsU ctx:List (Int×B.Fn)}{Ga Gc:Int->B.Fn}{mp mq:List (Int×Int)}{U:List (Int×Int)->HY->List (Int×B.Fn)->Prop}{ds:List (Int×Int)}{x y:Int}{L2:Int×Int×Int×Unit->HY->(Unit->HP)->PX->Prop}{X:PX}{N:HP}(s:PrS Hb H wb b M0 Mb M L lvb lv hsU ctx Ga Gc mp mq rp rq U ds)(d:DoU Hb wb b M0 Mb L lvb Ga Gc U ub bu o L2)(S:M.nx+(o:Int)<576460752303423460)(R:σ M.hs<=59900)(I:(Ag mp x).isSome=τ)(A:(Ag mq y).isSome=τ)(e:rp≠ub/\rp≠wb/\G5 b M0 rp)(c:rq≠ub/\rq≠wb/\G5 b M0 rq)(h:∀M' lv' a hsU',PrS Hb a wb b M0 Mb M' L lvb lv' hsU' ctx Ga Gc mp mq rp rq U (ds++[(x,y)])->M'.nx<=M.nx+(o:Int)+1->N a):qK 25 Ck (ν b,[(Ag mp x).getD (0:Int),(Ag mq y).getD (0:Int)],()) H (λ(b:Int×Int×Unit)(_:Unit)(a:HY)=>qK 54 Bo (ν wb,b.1,b.2.1,()) a (λ(b:Int×Unit)(_:Unit)(a:HY)=>∃(f:Am),a wb=ν (Ob.st Co f)/\f=f/\qK 29 MR (f.m,b.1,(0:Int),()) a (λ(g:Bool×Int×Unit)(_:Unit)(a:HY)=>(g.1=τ->qK 128 AI (ν wb,[b.1],()) a (λ(_ _:Unit)(a:HY)=>N a) X)/\(¬g.1=τ->(¬g.2.1=(0:Int)->qK 128 AI (ν wb,[b.1],()) a (λ(_ _:Unit)(a:HY)=>N a) X)/\(¬¬g.2.1=(0:Int)->L2 (x,y,b.1,()) a (λ(_:Unit)(a:HY)=>N a) X))) X) X) X:=by
 obtain⟨w,q⟩:=ap.1 I;obtain⟨z,v⟩:=ap.1 A;rw[q,v,aw,aw];have J:=s.k.h.Ar (w,Ga x) (ad _ (ad _ (ac _ (Wh q))));have P:=s.k.h.Ar (z,Gc y) (ad _ (ac _ (Wh v)));have k:H rp≠δ:=by rw[s.p];simp
 have j:H rq≠δ:=by rw[s.q];simp
 refine Ak9 s.k (by omega) (by omega) J P (λD M' lv' a l m i=>?_) λG M' lv' a l m i=>?_
 .exact h M' lv' a hsU ⟨l,d.skip _ _ _ _ _ (d.st _ _ _ _ s.u i) D,by rw[i rp k e.2.1 e.2.2];exact s.p,by rw[i rq j c.2.1 c.2.2];exact s.q⟩ (by omega)
 .have r:a rp=ν (.mp I6 I6 mp):=by rw[i rp k e.2.1 e.2.2];exact s.p
  have u:a rq=ν (.mp I6 I6 mq):=by rw[i rq j c.2.1 c.2.2];exact s.q
  have T:=s.k.ln;have Q:=l.ln;rw[bk]at Q;refine d.L2 ds a hsU M' lv' x y M.nx _ N X (d.st _ _ _ _ s.u i) G l (by omega) (by omega) λK n O p F E C t=>?_;exact h K n O p ⟨F,E,by grind,by grind⟩ (by omega)
theorem PrS.fresh{Hb H:HY}{wb b rp rq ub bu cu l:Nat}{M0 Mb M:Mn}{L:Ae}{lvb lv:List (Int×Bool)}{hsU ctx:List (Int×B.Fn)}{Ga Gc:Int->B.Fn}{mp mq:List (Int×Int)}{U:List (Int×Int)->HY->List (Int×B.Fn)->Prop}{ds:List (Int×Int)}{y:Ob Y0}{L2:Int×Int×Int×Unit->HY->(Unit->HP)->PX->Prop}(s:PrS Hb H wb b M0 Mb M L lvb lv hsU ctx Ga Gc mp mq rp rq U ds)(d:DoU Hb wb b M0 Mb L lvb Ga Gc U ub bu cu L2)(f:H l=δ):PrS Hb (Ac H l y) wb b M0 Mb M L lvb lv hsU ctx Ga Gc mp mq rp rq U ds:=by have a:∀{c},H c≠δ->c≠l:=λh e=>h (by grind);exact⟨s.k.fresh f,d.st _ _ _ _ s.u λc g _ _=>Ad _ _ (a g),by rw[Ad _ _ (a (by rw[s.p];simp))];exact s.p,by rw[Ad _ _ (a (by rw[s.q];simp))];exact s.q⟩
theorem Rn{Hb H:HY}{wb b ub bu K W Z:Nat}{M0 Mb M:Mn}{L:Ae}{lvb lv:List (Int×Bool)}{hsU ctx:List (Int×B.Fn)}{ta tb:Ab}{Ga Gc:Int->B.Fn}{bda ca pka bdc cc pkc:Nat}{n0:Int}{U:List (Int×Int)->HY->List (Int×B.Fn)->Prop}{L2:Int×Int×Int×Unit->HY->(Unit->HP)->PX->Prop}{X:PX}{Q:Unit->UU}(k:Wk Hb H wb b M0 Mb M L lvb lv (hsU++ctx))(u:U [] H hsU)(d:DoU Hb wb b M0 Mb L lvb Ga Gc U ub bu K L2)(na:VV L n0 ta Ga bda ca pka)(nc:VV L n0 tb Gc bdc cc pkc)(hS:M.S.n=n0)(O:H ub≠δ)(hubw:ub≠wb)(hubm:G5 b M0 ub)(_:bda<=100000)(hb2:bdc<=100000)(hW:W=bdc*(K+1))(hZ:Z=bda*W)(hn:M.nx+(ca:Int)+(cc:Int)+(Z:Int)+(K:Int)<576460752303419000)(hl1:σ M.hs+pka<=59900)(hl2:σ M.hs+bda+pkc<=59900)(hl3:σ M0.hs+σ lvb+σ ctx+bu+bda+bdc<=59900)(post:∀M' lv' H' hsU' ds,Wk Hb H' wb b M0 Mb M' L lvb lv' (hsU'++ctx)->U ds H' hsU'->(∀x y a,Ga x a=τ->Gc y a=τ->(x,y)∈ds)->M'.nx<=M.nx+(ca:Int)+(cc:Int)+(Z:Int)->Q () () H'):qK 135 FA (ν wb,ta,tb,L2,()) H Q X:=by
 refine wF Tryz.f135 {lp:=[(6,⟨[(25,.one (.own I6)),(33,.one (.own I6)),(35,.nat)],[0,3,8,9,11,25,26,27,33,34],τ⟩),(3,⟨[(25,.one (.own I6)),(27,.nat)],[0,3,8,9,25,26],τ⟩)],im:=[5,6],il:=ilT} (?_:MC (ν wb) ta tb L2 H Q X);unfold MC;have wln:=k.w.ln;refine na k.w (by omega) hl1 hS λM1 lv1 H1 w mp P D hrp1 mndp zp lp nx1=>?_;have k1l:=P.ln;have lhp:σ (JH mp Ga)=σ mp:=aj _;refine nc P.w (by omega) (by omega) (P.w.bs.n.trans (k.w.bs.n.symm.trans hS)) λM2 lv2 H2 A g k2 E hrq1 mndq zq lq nx2=>?_;have lhq:σ (JH g Gc)=σ g:=aj _;have V:w≠wb:=λe=>by rw[e,k.w.ob]at D;cases D
 have hrqw:A≠wb:=λe=>by rw[e,P.w.ob]at E;cases E
 have S:G5 b M0 w:=(k.w.mg.h.notM D).back k.w.bs;have R:G5 b M0 A:=(P.w.mg.h.notM E).back P.w.bs;have hrpu:w≠ub:=λe=>O (e▸D);have hrqu:A≠ub:=λe=>by have:=P.f ub O hubw hubm;grind
 have e1:H2 w=ν (.mp I6 I6 mp):=by rw[k2.f w (by grind) V S];omega
 have S0:PrS Hb H2 wb b M0 Mb M2 L lvb lv2 hsU ctx Ga Gc mp g w A U []:=by refine⟨((k.trans P).trans k2).perm ?_,d.st _ _ _ _ u (P.f.trans k2.f),e1,hrq1⟩;grind[ab,JH,trans,bw]
 have hkp:=N9 mp;have hkq:=N9 g;have bound:∀{M':Mn}{H':HY}{lv' F ds},PrS Hb H' wb b M0 Mb M' L lvb lv' F ctx Ga Gc mp g w A U ds->σ M'.hs<=59900:=λ{M' H' lv' F ds}s=>by have h1:=s.k.ln;have h2:=d.le _ _ _ s.u;grind
 refine Iq (b:=w) e1 (by omega) λc l r r' hl=>?_;have S1:=S0.fresh (y:=.lp r') d hl;generalize Ac H2 l (Ob.lp r')=H3 at S1;refine λ_=>⟨λn z H'=>n=σ mp-z.2.1/\z.2.1<=σ mp/\z.1=Au mp/\∃M' lv' F ds,PrS Hb H' wb b M0 Mb M' L lvb lv' F ctx Ga Gc mp g w A U ds/\(∀x∈(Au mp).take z.2.1,∀y∈Au g,(x,y)∈ds)/\M'.nx+((n*W:Nat):Int)<=M.nx+(ca:Int)+(cc:Int)+(Z:Int),⟨_,rfl,ag _,rfl,M2,lv2,hsU,[],S1,by simp,?_⟩,?_⟩
 .have:σ mp*W<=Z:=by simp_all[c6]
  grind
 rintro n ⟨kp,i,_⟩ H4 ⟨hn0,hi0,v,M4,lv4,I,N,S4,C,nx4⟩;have hn1:n=σ mp-i:=hn0;have hi:i<=σ mp:=hi0;have hkp1:kp=Au mp:=v;subst hkp1;replace C:∀x∈(Au mp).take i,∀y∈Au g,(x,y)∈N:=C;refine⟨λp _=>?_,λp=>?_⟩
 .have p:i<σ (Au mp):=p;refine⟨p,p,Iq (b:=A) S4.q (by omega) λc2 l2 r2 r2' hl2'=>?_⟩;have T:=S4.fresh (y:=.lp r2') d hl2';generalize Ac H4 l2 (Ob.lp r2')=H5 at T;obtain⟨n',hn'⟩:∃n',n=n'+1:=⟨n-1,by omega⟩
  have hsplit:n*W=n'*W+W:=by rw[hn',cr]
  have hxs:∀(hh:i<σ (Au mp)),(Ag mp ((Au mp)[i]'hh)).isSome=τ:=λhh=>by grind[Q9,ai]
  refine λ_=>⟨λn1 z H'=>n1=σ g-z.2.2.1/\z.2.2.1<=σ g/\z.1=Au mp/\z.2.1=Au g/\∃M' lv' F ds,PrS Hb H' wb b M0 Mb M' L lvb lv' F ctx Ga Gc mp g w A U ds/\(∀x∈(Au mp).take i,∀y∈Au g,(x,y)∈ds)/\(∀y∈(Au g).take z.2.2.1,((Au mp)[i],y)∈ds)/\M'.nx+((n1*(K+1):Nat):Int)+((n'*W:Nat):Int)<=M.nx+(ca:Int)+(cc:Int)+(Z:Int),⟨_,rfl,ag _,rfl,rfl,M4,lv4,I,N,T,C,by simp,?_⟩,?_⟩
  .have:σ g*(K+1)<=W:=by simp_all[c6]
   grind
  rintro n1 ⟨kp2,kq,j,_⟩ H6 ⟨hn60,hj0,v,hkq0,M6,lv6,hs6,J,t,Y,q,nx6⟩;have hn6:n1=σ g-j:=hn60;have hj:j<=σ g:=hj0;have hkp2:kp2=Au mp:=v;have hkq2:kq=Au g:=hkq0;subst hkp2 hkq2;replace q:∀y∈(Au g).take j,((Au mp)[i],y)∈J:=q;refine⟨λo _=>?_,λo=>?_⟩
  .have o:j<σ (Au g):=o;have hys:(Ag g ((Au g)[j]'o)).isSome=τ:=by obtain⟨h,e,_⟩:=Q9 mndq (ai o);rw[e];rfl
   obtain⟨n2,hn2⟩:∃n2,n1=n2+1:=⟨n1-1,by omega⟩
   have hsp2:n1*(K+1)=n2*(K+1)+(K+1):=by rw[hn2,cr]
   have b6:=bound t;have cov:∀x∈(Au mp).take i,∀y∈Au g,(x,y)∈J++[((Au mp)[i],(Au g)[j])]:=λx hx y hy=>ac _ (Y x hx y hy);have cov':∀y∈(Au g).take (j+1),((Au mp)[i],y)∈J++[((Au mp)[i],(Au g)[j])]:=λy hy=>by
    rw[a8 o,ak,aa]at hy;rcases hy with e|e
    .exact ac _ (q y e)
    .rw[e];simp
   refine⟨o,o,wb,rfl,⟨_,t.k.w.ob,⟨rfl,w,rfl,mp,t.p,A,rfl,g,t.q,?_⟩,rfl,A,rfl,g,t.q,w,rfl,mp,t.p,?_⟩,⟨w,rfl,mp,t.p,⟨_,t.k.w.ob,rfl,A,rfl,g,t.q,?_⟩,A,rfl,g,t.q,Qb ⟨_,t.k.w.ob,rfl,?_⟩⟩,A,rfl,g,t.q,⟨_,t.k.w.ob,rfl,w,rfl,mp,t.p,?_⟩,w,rfl,mp,t.p,Qb ⟨_,t.k.w.ob,rfl,?_⟩⟩;all_goals exact Atr t d (by omega) b6 (hxs p) hys ⟨hrpu,V,S⟩ ⟨hrqu,hrqw,R⟩ λM7 lv7 H7 hs7 S7 nx7=>⟨by show j+1<=_;omega,n2,by omega,by show n2=σ g-(j+1);omega,by show j+1<=_;omega,rfl,rfl,M7,lv7,hs7,_,S7,cov,cov',by omega⟩
  .have o:¬j<σ (Au g):=o;have cov:∀x∈(Au mp).take (i+1),∀y∈Au g,(x,y)∈J:=λx hx y hy=>by
    rw[a8 p,ak,aa]at hx;rcases hx with e|e
    .exact Y x e y hy
    .rw[e];exact q y (by rw[bn (by omega)];exact hy)
   exact⟨by show i+1<=_;omega,n',by omega,by show n'=σ mp-(i+1);omega,by show i+1<=_;omega,rfl,M6,lv6,hs6,J,t,cov,by omega⟩
 .have p:¬i<σ (Au mp):=p;have hfst:∀{m:List (Int×Int)}{G:Int->B.Fn},(JH m G).map (·.1)=m.map (·.2):=λ{m G}=>by unfold JH;rw[List.map_map];rfl
  refine V3 (b:=w) S4.p (by omega) λc5 l5 r5 r5' x5 hl5 hx5=>?_;have T:=S4.fresh (y:=.lp r5') d hl5;generalize Ac H4 l5 (Ob.lp r5')=H5 at T;have lx5:=hx5.length_eq;rw[aj]at lx5;have kk:Wk Hb H5 wb b M0 Mb M4 L lvb lv4 (JH mp Ga++(JH g Gc++(I++ctx))):=by refine T.k.perm ?_;refine List.Perm.trans ?_ (ab (JH g Gc) I _);refine(ab (JH mp Ga) (JH g Gc) _).trans (bw _ ?_);exact ab (JH mp Ga) I ctx
  refine Wk.drop kk (by omega) (by omega) (by rw[hfst];exact hx5) λM7 lv7 H7 k7 nx7 f7=>?_;have q7:H7 A=ν (.mp I6 I6 g):=by rw[f7 A (by rw[T.q];simp) hrqw R];exact T.q
  refine V3 (b:=A) q7 (by omega) λc8 l8 r8 r8' x8 hl8 hx8=>?_;have lx8:=hx8.length_eq;rw[aj]at lx8;have k8:=k7.fresh (y:=.lp r8') hl8;have u8:U N (Ac H7 l8 (Ob.lp r8')) I:=d.st _ _ _ _ (d.st _ _ _ _ T.u f7) λc a0 _ _=>Ad _ _ λe=>a0 (by rw[e];exact hl8);generalize Ac H7 l8 (Ob.lp r8')=H8 at k8 u8;refine Wk.drop k8 (by omega) (by omega) (by rw[hfst];exact hx8) λM9 lv9 H9 k9 nx9 f9=>?_;refine post M9 lv9 H9 I N k9 (d.st _ _ _ _ u8 f9) (λx y a hxa hya=>?_) (by omega);refine C x ?_ y ?_
  .rw[bn (by omega)];refine(Dz mp).mem_iff.2 (am λhne=>?_);rw[zp x (En.2 hne)]at hxa;cases hxa
  .refine(Dz g).mem_iff.2 (am λhne=>?_);rw[zq y (En.2 hne)]at hya;cases hya
end Go.Proofs.YtcbkbpjlbmalmaaGreatDoor
