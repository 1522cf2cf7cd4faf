/- Lean texts of the claim. -/
import Derived.Test.YtboghahlhmnblaaGreatZv15
import Derived.Test.YtboghahlhmnblaaGreatZv17
namespace Go.Proofs.YtboghahlhmnblaaGreat
set_option linter.all false
set_option maxRecDepth 100000
set_option maxHeartbeats 0
open Go.RowKit Go.Proofs.Tryz
variable{a:Array Value}{b:World}{c:Nat}{e:TypeId}{f:Value}{k:Nat}{A:Option Addr}{w:World}
section
theorem Bf.n4(w:World)(o c a:Obj)(t:TypeId)(b:Array Value):Bf ((((w.alloc o).alloc c).alloc a).alloc (.cells b t)) (w+1+1+1) t b:=by
 have h:=Bf.new (((w.alloc o).alloc c).alloc a) t b;simpa using h
theorem Xp{a:Nat}{b g d:Value}(h:Bf w c e #[f,b])(k:Bf w a e #[g,d]):Cq w c 0 f/\Cq w c 1 b/\Cq w a 0 g/\Cq w a 1 d:=⟨(h.cell 0).trans rfl,(h.cell 1).trans rfl,(k.cell 0).trans rfl,(k.cell 1).trans rfl⟩
def cv(w:World)(p:Addr):Value:=(w.cell? p).getD (.bool false)
theorem Bf.s2{b:Value}(h:Bf w c e #[f,b])(a d:Value):Bf ((w.setCell ⟨c,0,none⟩ a).setCell ⟨c,1,none⟩ d) c e #[a,d]:=(h.set_ 0 a).set_ 1 d
section
variable {P : Program} {ops : Array Oper} {Q : Exit -> Act -> World -> Prop} {S : World -> Prop} {oi : Oper} {v : Value} {m : Nat} {l l2 : Array Bool} {a a2 : Act} {w : World}
theorem tkH(i:Nat)(hS:S w)(h:wpAnyH P .any ops Q S m l2 a2 w)(hi:ops[i]? = some oi:=by rfl)(hs:Region.noSelect ops=true:=by kernel_rfl)(hf:Region.free .any ops l i=true:=by kernel_rfl)(hr:(Region.ready .any ops l).contains i=true:=by kernel_rfl)
 (hQ:∀c a w,Q (.panic c) (a.put oi.dst v) w->Q (.panic c) a w:=by exact fun _ _ _ h=>h) (hy:YieldsIf P ops S oi v a:=by exact Or.inl ⟨by rfl,by intro W hS;(try dsimp only at hS);go_simp;(try with_reducible rfl)⟩)
 (hl:l.setIfInBounds i true=l2:=by (try simp only[Act.put,fY,List.set_cons_zero,eE,List.getElem_toArray,List.getElem_cons_zero,List.getElem_cons_succ]);rfl) (ha:a.put oi.dst v=a2:=by (try simp only[Act.put,fY,List.set_cons_zero,eE,List.getElem_toArray,List.getElem_cons_zero,List.getElem_cons_succ]);rfl):wpAnyH P .any ops Q S (m+1) l a w:=by
 subst hl ha;exact wpAnyH_take hi hs hf hr hQ hy hS h
theorem rdH(i:Nat)(h:∀K':Act->World->Prop,Shut (∀a w,S w->(S w->wpAnyH P .any ops Q S m (l.setIfInBounds i true) a w)->K' a w)->if Region.wanted oi (yielded ops a.tmps)=true then Oper.wp P oi a w K' Q else K' (a.put oi.dst undef) w)
 (hi:ops[i]? = some oi:=by rfl) (hr:Region.ready .any ops l=[i]:=by kernel_rfl):wpAnyH P .any ops Q S (m+1) l a w :=
 wpAnyH_ready hr (by simp) (AllReadyH.cons hi h AllReadyH.nil)
end
theorem hgr(A:Option Addr)(F n:Nat)(l:LP)(nm:ByteArray)(a b:Int×Int)(w:World)(hs:SpS w A n l)(hp:plW l n=0)(ha:Af9 a)(bt:Af9 b):Calls prog 115 #[.agg #[.string nm,.slice A n F],.agg #[a.1,a.2],.agg #[b.1,b.2]] w λe w'=>∃v,e=.returned (.agg #[.string nm,v])/\OwS w' w v (He l a b)/\Be w w':=by
 let⟨k5,k6⟩:=Er hp;have cn:=Ar λk (hk:k<n)=>(Lb hp (hk:=hk)).1;have bd:=Ar hs.1;obtain⟨R,T⟩:=a;obtain⟨V,U⟩:=b;obtain⟨a1,a2,a3,a4⟩:=ha;obtain⟨b1,b2,b3,b4⟩:=bt;dsimp only at a1 a2 a3 a4 b1 b2 b3 b4;let⟨s,ca⟩:∃s,s+1=n:=⟨n-1,aK⟩
 have hN:(n:Int)-1=(s:Int):=aK
 have kh:1<=s:=aK
 have kk:s<=39:=aK
 have kl:s<n:=aK
 have bp:=Ar ca;have bm:=Ar (λk=>show Mw l (R,T) (V,U) k=((gt l k).1+F8 (((s:Int)-k)*R+k*V) s,(gt l k).2+F8 (((s:Int)-k)*T+k*U) s) by unfold Mw;rw[bd.out,hN]);have bl:=Ar (show He l (R,T) (V,U)=(List.range n).map (Mw l (R,T) (V,U)) by unfold He;rw[bd.out]);let⟨f,hf⟩:=gN (Mw l (R,T) (V,U))
 rw[hf]at bm bl;have cu:=Ar (λk=>show (List.range (k+1)).map f=(List.range k).map f++[f k] by rw[fB,List.map_append];rfl);have W0:IntKind.i64.wrap ((n:Int)-1)=(s:Int):=by rw[hN,bH];omega
 clear hf hp hN ca;go_enter func115,ntmps115;go_upto_region 1 with fail;refine Cj (λX=>Be w X/\Bf X w 52 #[.string nm,.slice A n F]/\Bf X (w+1) 65 #[R,T]/\Bf X (w+1+1) 65 #[V,U]/\Bf X (w+1+1+1) 52 #[.string ByteArray.empty,.slice none 0 0]) ⟨Ao (Ao (Ao blA)),(((Bf.new _ _ _).alloc _).alloc _).alloc _,((Bf.new2 _ _ _ _).alloc _).alloc _,(Bf.new3 _ _ _ _ _).alloc _,Bf.n4 _ _ _ _ _ _⟩ ?_;rintro X ⟨P,hL,hA,hB,hR⟩;let⟨p0,p1⟩:=Fe hL;go_upto_region 2 with fail;refine Bq λY ak N=>?_
 have q1:=Aq ak p1;have j5:X.heap.size<Y.heap.size:=N.lt;have k3:=hR.lt;go_upto_region 4 with fail;clear p0 p1 q1;go_loopw [9,10] (λi _ wr=>∃(k:Nat) (v:Value),k<=n/\i=k/\OwS wr (X+1) v ((List.range k).map f)/\Bf wr X 52 #[.string nm,v]/\Be X wr) λi _ _=>n-(intOf i).toNat
 case atStart=>exact⟨0,_,aB,rfl,OwG.nil,N,ak⟩
 clear N ak;obtain⟨k,v,hk,rfl,ho,N,hb⟩:=hrel;by_cases au:k<n
 .obtain⟨E,z,rfl,j7,hc⟩:=hs.at_ au;let⟨h1,h2⟩:=hc k au;let⟨i1,i2,i3,i4⟩:=cn.out k au;have j:=bm.out k;have a7:=cu.out k;let⟨⟨x,y⟩,cc⟩:∃p,gt l k=p:=⟨_,rfl⟩
  rw[cc]at h1 h2 i1 i2 i3 i4 j;dsimp only at h1 h2 i1 i2 i3 i4 j;have j9:k<=s:=by have:=bp.out;omega
  have B0:(k:Int)<=(s:Int):=aK
  let⟨d,hd⟩:=gN ((s:Int)-(k:Int):Int)
  have H:0<=d/\d<=40:=aK
  have m1:=Mv H.1 H.2 a1 a2;have m2:=Mv (show (0:Int)<=(k:Int) by omega) aK b1 b2;have m3:=Mv H.1 H.2 a3 a4;have m4:=Mv (show (0:Int)<=(k:Int) by omega) aK b3 b4;rw[hd]at j;let⟨u1,b6⟩:=gN (d*R)
  let⟨u2,b7⟩:=gN ((k:Int)*V)
  let⟨u3,b8⟩:=gN (d*T)
  let⟨u4,b9⟩:=gN ((k:Int)*U)
  rw[b6]at m1 j;rw[b7]at m2 j;rw[b8]at m3 j;rw[b9]at m4 j;let⟨u,hu⟩:=gN (u1+u2)
  let⟨v2,hv⟩:=gN (u3+u4)
  rw[hu,hv]at j;have r1:=Ye (u:=u) (s:=(s:Int));have r2:=Ye (u:=v2) (s:=(s:Int));have c0:∀J:World,Calls prog 165 #[u,(s:Int)] J λe w'=>e=.returned (F8 u s)/\J=w':=λJ=>Ad5 u s J aK aK aK aK
  have c3:∀J:World,Calls prog 165 #[v2,(s:Int)] J λe w'=>e=.returned (F8 v2 s)/\J=w':=λJ=>Ad5 v2 s J aK aK aK aK
  let⟨rx,c6⟩:=gN (F8 u s)
  let⟨ry,c9⟩:=gN (F8 v2 s)
  rw[c6]at c0 r1 j;rw[c9]at c3 r2 j;let⟨X',a8⟩:=gN (x+rx)
  let⟨Y',ad⟩:=gN (y+ry)
  rw[a8,ad]at j;rw[j]at a7;have HM:=Ar a7;have W1:IntKind.i64.wrap ((s:Int)-(k:Int))=d:=by rw[hd,bH];omega
  have W2:IntKind.i64.wrap (d*R)=u1:=by rw[b6,bH];omega
  have W3:IntKind.i64.wrap ((k:Int)*V)=u2:=by rw[b7,bH];omega
  have W4:IntKind.i64.wrap (u1+u2)=u:=by rw[hu,bH];omega
  have W5:IntKind.i64.wrap (d*T)=u3:=by rw[b8,bH];omega
  have W6:IntKind.i64.wrap ((k:Int)*U)=u4:=by rw[b9,bH];omega
  have W7:IntKind.i64.wrap (u3+u4)=v2:=by rw[hv,bH];omega
  have W8:IntKind.i64.wrap (x+rx)=X':=by rw[a8,bH];omega
  have W9:IntKind.i64.wrap (y+ry)=Y':=by rw[ad,bH];omega
  have B1:(0:Int)<=(k:Int):=aK
  have B2:(k:Int)<(n:Int):=aK
  clear hc cc hd b6 b7 b8 b9 hu hv c6 c9 a8 ad j a7 m1 m2 m3 m4 r1 r2 H;go_upto_region 6 with fail;have B:=Aw (aV wr wr);have L:=hA.keep hb;have M:=hB.keep hb;go_cut [10] λe9 wx=>∃g,e9=.pointer (some ⟨g,0,none⟩)/\Bf wx g 65 #[rx,ry]/\wr.heap.size<=g/\Be wr wx
  case first =>
   go_region_held3 (sB λW h=>Xp (L.keep h) (M.keep h))
    (first
     | with_reducible exact Xp (L.keep B) (M.keep B)
     | with_reducible exact Xp (L.keep (Ao B)) (M.keep (Ao B))
     | with_reducible exact Xp (L.keep (Aw blA)) (M.keep (Aw blA)))
    ((first
      | (go_at_call 165;(with_reducible refine(c0 _).mono ?_);rintro e J ⟨rfl,rfl⟩)
      | (go_at_call 165;(with_reducible refine(c3 _).mono ?_);rintro e w3 ⟨rfl,rfl⟩)))
   all_goals go_wp2
   all_goals go_meet
   all_goals first
    | exact⟨_,rfl,Bf.drew (Bf.new _ _ _),aA,Aw blA⟩
    | exact⟨_,rfl,Bf.new _ _ _,aA,Ao blD⟩
  obtain⟨g,rfl,hG,j8,ai⟩:=hcut;have D:OwS wc (X+1) v ((List.range k).map f):=OwG.keep ho ai;have G:=N.keep ai;have O:=An hb ai;have bu:=An P O;have a6:=hL.keep O;have c1:=Aq bu h1;have c2:=Aq bu h2;have k2:=G.lt;have k1:=hG.lt;have k4:=N.lt;have j4:=P.size;let⟨Q,cb⟩:∃Q,Q=v:=⟨_,rfl⟩
  rw[<-cb]at ho D N G;clear cb;have e6:some X.heap.size≠Q.ownBlock:=λe=>by have:=(OwG.lt D _ e.symm).1;omega
  have I:((List.range k).map f).length<=1000000:=by rw[List.length_map,List.length_range];omega
  have l1:=(Fe G).2;have l2:=(Fe a6).2;let⟨l3,l4⟩:=Fe hG;clear W1 W2 W3 W4 W5 W6 W7;go_upto_region 7 with fail;have B:=Aw (aV wc wc);have k9:=OwG.keep D B;have j3:=G.keep B;have cf:some E≠Q.ownBlock:=λe=>by have:=(OwG.lt D _ e.symm).1;omega
  have e5:some w.heap.size≠Q.ownBlock:=λe=>by have:=(OwG.lt D _ e.symm).1;omega
  have e7:some g≠Q.ownBlock:=λe=>by have:=(OwG.lt ho _ e.symm).2;omega
  have k0:=Ar l1
  have HF:=Ar (λm (hl:Bf m w 52 #[.string nm,.slice (some ⟨E,z,none⟩) n F]) (Z:Bf m g 65 #[rx,ry]) (d1:Cq m E (z+k*2) x) (d2:Cq m E (z+k*2+1) y) =>
   (show Cq m w 1 (.slice (some ⟨E,z,none⟩) n F)/\Cq m E (z+k*2) x/\Cq m E (z+k*2+1) y/\Cq m g 0 rx/\Cq m g 1 ry from ⟨(Fe hl).2,d1,d2,(Fe Z).1,(Fe Z).2⟩))
  have HB:=Ar λm (h:Be wc m)=>HF.out m (a6.keep h) (hG.keep h) (Aq h c1) (Aq h c2)
  have HG:=Ar (λ(W m:World) (h:Be wc W) (Z:W.grownBy m Q.ownBlock)=>show Bf m X 52 #[.string nm,Q]/\Bf m w 52 #[.string nm,.slice (some ⟨E,z,none⟩) n F]/\Bf m g 65 #[rx,ry]/\Cq m E (z+k*2) x/\Cq m E (z+k*2+1) y from
   ⟨(G.keep h).grown Z e6,(a6.keep h).grown Z e5,(hG.keep h).grown Z e7,(Z.cell_far _ (by have:=h.size;simp;omega) cf).trans (Aq h c1),(Z.cell_far _ (by have:=h.size;simp;omega) cf).trans (Aq h c2)⟩)
  have e3:w.heap.size≠X.heap.size:=aK
  have e4:g≠X.heap.size:=aK
  have cd:E≠X.heap.size:=aK
  have kq:=Aq B l1;have kp:=Aq (Aw (Ao (aV wc wc) (o:=.cells #[X',Y'] 65))) l1;clear l2 l3 l4;refine wp_region_held_drew (S:=λm=>Cq m w 1 (.slice (some ⟨E,z,none⟩) n F)/\Cq m E (z+k*2) x/\Cq m E (z+k*2+1) y/\Cq m g 0 rx/\Cq m g 1 ry) aN (HB.out _ B) λt=>?_;refine tkH 0 t ?_;refine tkH 2 t ?_;refine tkH 3 t ?_;refine tkH 4 t ?_;refine tkH 5 t ?_;refine tkH 6 t ?_;refine tkH 7 t ?_;refine tkH 8 t ?_;refine tkH 9 t ?_;refine tkH 10 t ?_;refine tkH 11 t ?_;refine tkH 12 t ?_;refine tkH 13 t ?_;refine tkH 14 t ?_;refine tkH 15 t ?_;refine tkH 16 t ?_;refine tkH 17 t ?_;refine tkH 18 t ?_;refine tkH 19 t ?_;refine tkH 20 t ?_;refine wpAnyH_ready (rs:=[1,21]) aN aL ?_;refine AllReadyH.cons (o:=_) rfl (λK C=>?_) (AllReadyH.cons (o:=_) rfl (λK C=>?_) AllReadyH.nil)
  all_goals
   simp only[List.getElem_toArray,List.getElem_cons_zero,List.getElem_cons_succ]
   go_simp
   refine C.out _ _ (HB.out _ (by first|exact B|exact Aw blA)) λt=>?_;clear C K
   (try go_frame)
  refine rdH 21 λK C=>?_
  rotate_left
  refine rdH 1 λK C=>?_
  all_goals
   simp only[List.getElem_toArray,List.getElem_cons_zero,List.getElem_cons_succ]
   go_simp
   refine C.out _ _ (HB.out _ (Aw blA)) λt=>?_;clear C K
   (try go_frame)
   refine rdH 22 λK C=>?_;refine Kx (by rfl) (X+1) Q ((List.range k).map f) (OwG.keep (OwG.alloc D _) blD) wc 1 (X',Y') 65 (Bf.drew (Bf.new _ _ _)) I (wc+1) ?_;intro g9 fb w9 b5 c4 fs gw;have c:=HG.out _ _ (Aw blA) c4;let⟨y0,y1,y2,y3,y4⟩:=c.1.pair;refine C.out _ _ (HF.out _ c.2.1 c.2.2.1 c.2.2.2.1 c.2.2.2.2) λt=>?_;clear C K
   (try go_frame)
   refine rdH 23 λK C=>?_;simp only[List.getElem_toArray,List.getElem_cons_zero,List.getElem_cons_succ]
   go_simp
   refine C.out _ _ (HF.out _ c.2.1 c.2.2.1 c.2.2.2.1 c.2.2.2.2) λt=>?_;clear C K
   (try go_frame)
   refine rdH 24 λK C=>?_;simp only[List.getElem_toArray,List.getElem_cons_zero,List.getElem_cons_succ]
   go_simp
   refine C.out _ _ (HF.out _ (c.2.1.far e3 _) (c.2.2.1.far e4 _) ((World.cell?_setCell_other _ _ _ _ λe=>absurd (eB Addr.block e).symm cd).trans c.2.2.2.1) ((World.cell?_setCell_other _ _ _ _ λe=>absurd (eB Addr.block e).symm cd).trans c.2.2.2.2)) λt=>?_;clear C K
   (try go_frame)
   refine wpAnyH_done aN ?_ _
   go_wp2_with fail;have dx:((List.range k).map f).length=k:=by rw[List.length_map,List.length_range]
   rw[dx]at b5;refine⟨⟨k+1,_,aK,aP,?_,c.1.set_ 1 _,Ba (dS (An O (Aw blA)) c4 (An O (Aw blA)).size λq hq=>Nat.le_of_succ_le (OwG.lt D q hq).1) (p:=⟨X,1,none⟩) aA⟩,aI⟩;rw[HM.out];exact OwG.far b5 (λe=>absurd (OwG.lt b5 _ e).1 aL) _
 obtain rfl:n=k:=aK
 obtain⟨A',c',rfl,-⟩:=OwG.form2 ho;have I:((List.range n).map f).length=n:=by rw[List.length_map,List.length_range]
 rw[I]at ho N;have B0:¬(n:Int)<=(s:Int):=by have:=bp.out;omega
 let⟨o0,o1⟩:=Fe N;have bq:=hR.keep hb;let⟨r0,r1,f0,f1,lt⟩:=bq.pair;go_wp2_with fail;let⟨s0,s1⟩:=Fe (bq.s2 (.string nm) (.slice A' n c'));have c5:∀o,(Value.slice A' n c').ownBlock≠some (⟨w+1+1+1,o,none⟩:Addr).block:=λo e=>by have:=(OwG.lt ho _ e).1;dsimp only at this;omega
 refine cB (v:=.agg #[.string nm,.slice A' n c']) (by simp[results,results115,go_sem,s0,s1]) rfl ⟨_,rfl,?_,Ba (Ba (An P hb) (p:=⟨w+1+1+1,0,none⟩) aO) (p:=⟨w+1+1+1,1,none⟩) aO⟩;rw[bl.out];exact OwG.lower (OwG.far (OwG.far ho (c5 0) _) (c5 1) _) (by have:=P.size;omega)
end
theorem Aif{f:Nat}(j:f=88\/f=65)(d:Array Value)(p:PieceP)(m:Int)(w:World)(k:PcV w d p)(h:wI m 100=false):Calls prog f #[.agg d,m] w (Xk w ([],3)):=by
 rcases j with rfl|rfl
 have a:=@D7
 rotate_left 1
 have a:=@Jc
 rotate_left 1
 all_goals
  have g:=Ar h;clear h;obtain⟨q,u,r,v,s,x,t,y,rfl,⟨G,H,I⟩,⟨J,K,L⟩,⟨M,N,O⟩,⟨l,n,o⟩⟩:=k;go_in;go_upto_region 1 with fail;refine Bq λX c i=>?_
  let⟨z,A,B,C,D,E,F⟩:=pc7 i
  go_wp2_with ((first|go_at_call 131|go_at_call 113);refine rR (a m 100 _ aK aK) λP b=>?_;rw[g.out])
  go_ret2
  exact Xk.none_ (An c b)
def Apt:=@Aif 88 (.inl rfl)
def Apq:=@Aif 65 (.inr rfl)
theorem Aie{f:Nat}(r:f=88\/f=65)(l:Array Value)(p:PieceP)(m:Int)(w:World)(t:PcV w l p)(h:wI m 100=true)(s:p.cr.length≠p.ed.length):Calls prog f #[.agg l,m] w (Xk w ([],1)):=by
 rcases r with rfl|rfl
 have g:=@D7
 rotate_left 1
 have g:=@Jc
 rotate_left 1
 all_goals
  have o:=Ar h;have d:((p.cr.length:Int) != (p.ed.length:Int))=true:=by rw[eT];omega
  clear h s;obtain⟨y,C,z,D,A,E,B,F,rfl,⟨P,Q,R⟩,⟨S,T,U⟩,⟨V,W,Y⟩,⟨u,v,x⟩⟩:=t;go_in;go_upto_region 1 with fail;refine Bq λX i q=>?_
  let⟨I,j,J,K,k,L,M⟩:=pc7 q;let⟨G,b⟩:=gN p.ed.length
  let⟨H,c⟩:=gN p.cr.length
  rw[b]at j d;rw[c]at k d;clear b c
  go_wp2_with ((first|go_at_call 131|go_at_call 113);refine rR (g m 100 _ aK aK) λZ a=>?_;rw[o.out];have N:=Aq a j;have O:=Aq a k)
  all_goals go_ret2
  all_goals exact Xk.none_ (An i a)
def Aps:=@Aie 88 (.inl rfl)
def Apo:=@Aie 65 (.inr rfl)
theorem Apn(vs:Array Value)(p:PieceP)(m:Int)(w:World)(hv:PcV w vs p)(h:wI m 100=true)(N:p.cr.length=p.ed.length):Calls prog 65 #[.agg vs,m] w (Xk w (Ch p m)):=by
 have HG:=Ar (show Ch p m=if Bp (λi=>!wS (gt p.cr i) 1000) p.cr.length then ([],3) else if C7 p.ed≠0 then ([],C7 p.ed) else if C7 (Ej p m)≠0 then ([],C7 (Ej p m)) else (Ej p m,0) by
  unfold Ch;rw[if_neg (by rw[h];simp),if_neg (by simpa using N)])
 let⟨k5,k6⟩:=Ah1 h;have HW:=Ar h;have j2:=Ar N;clear h N;obtain⟨A1,c1,A2,c2,A3,c3,A4,c4,rfl,⟨v1,v2,v3⟩,⟨v4,v5,v6⟩,⟨v7,v8,v9⟩,⟨l5,l6,la⟩⟩:=hv;go_enter func65,ntmps65;go_upto_region 1 with fail;refine Bq λX D hP=>?_
 let⟨p0,p1,p2,p3,p4,p5,p6⟩:=pc7 hP;have N:=j2.out;let⟨c,P⟩:=gN p.ed.length
 rw[N]at p4 v7 v9 HG;rw[P]at p1 p4 v1 v3 v7 v9 HG hP;rw[N,P]at hP;have H:=Ar (show p.cr.length=c by rw[N,P]);have b5:=Ar P;clear N P;let⟨cr,bp⟩:=gN p.cr
 rw[bp]at v9 HG H;have iy:=Ar bp;clear bp;have Y:=hP;have c6:=v9.keep D;have a7:=v3.keep D
 go_upto_region 7 with (go_at_call 113;refine rR (Jc m 100 _ aK aK) λw1 bb=>?_;rw[HW.out];let⟨q0,q1,q2,q3,q4,q5,q6⟩:=pc7 (Y.keep bb))
 clear q0 q1 q2 q3 q4 q5 q6 p0 p1 p2 p3 p4 p5 p6;go_loopw [7] (λi wr=>∃k:Nat,k<=c/\i=k/\Hid (Bp (λi=>!wS (gt cr i) 1000) k=false)/\Be X wr) λi _=>c-(intOf i).toNat
 case atStart=>exact⟨0,aB,rfl,Ar (Bp.zero _),bb⟩
 obtain⟨k,hk,rfl,hz,z⟩:=hrel;let⟨q0,q1,q2,q3,q4,q5,q6⟩:=pc7 (Y.keep z);by_cases u:k<c
 .obtain⟨b0,G,rfl,fb,hc⟩:=(c6.keep z).at_ u;let⟨e1,e2⟩:=hc k u;have V:=Ar (show wS (gt cr k) 1000=(wI (gt cr k).1 1000&&wI (gt cr k).2 1000) from rfl);let⟨x,hx⟩:=gN ((gt cr k).1)
  let⟨y,hy⟩:=gN ((gt cr k).2)
  rw[hx]at e1 V;rw[hy]at e2 V;clear hc hx hy;have HR:=Ar (λ(hf:wS (gt cr k) 1000=false)=>show Ch p m=([],3) by rw[HG.out,if_pos (Bp.yes (f:=λi=>!wS (gt cr i) 1000) u (by rw[hf];rfl))]);have B1:(k:Int)<(c:Int):=aK
  let⟨bx,bd⟩:=gN (wI x 1000)
  let⟨bY,bc⟩:=gN (wI y 1000)
  rw[bd,bc]at V;have HX:=Ar bd;have HY:=Ar bc;clear bd bc;cases bx with
  | false =>
    have HF:=Ar (HR.out V.out)
    go_wp2_with (go_at_call 113;refine rR (Jc x 1000 _ aK aK) λw2 o=>?_;rw[HX.out])
    go_ret2
    rw[HF.out];exact Xk.none_ (An D (An z o))
  | true =>
    cases bY with
    | false =>
      have HF:=Ar (HR.out V.out)
      go_wp2_with (first
       | (go_at_call 113;have hz:=o;refine rR (Jc y 1000 _ aK aK) λw3 B=>?_;rw[HY.out])
       | (go_at_call 113;refine(Jc x 1000 _ aK aK).mono ?_;rintro e w2 ⟨rfl,o⟩;rw[HX.out];have z4:=Aq o q4;have z1:=Aq o e2))
      go_ret2
      rw[HF.out];exact Xk.none_ (An D (An (An z o) B))
    | true =>
      have HP:=Bp.succ (f:=λi=>!wS (gt cr i) 1000) hz.out (by rw[V.out];rfl)
      go_wp2_with (first
       | (go_at_call 113;have hz:=o;refine rR (Jc y 1000 _ aK aK) λw3 B=>?_;rw[HY.out])
       | (go_at_call 113;refine(Jc x 1000 _ aK aK).mono ?_;rintro e w2 ⟨rfl,o⟩;rw[HX.out];have z4:=Aq o q4;have z1:=Aq o e2))
      exact aE ⟨Ar HP,An (An z o) B⟩
 obtain rfl:c=k:=aK
 have I:=Ar (show Ch p m=if C7 p.ed≠0 then ([],C7 p.ed) else if C7 (Ej p m)≠0 then ([],C7 (Ej p m)) else (Ej p m,0) by rw[HG.out,if_neg (by rw[hz.out];simp)])
 have e8:=Ar (show ∀i,i<c -> -1000<=(gt cr i).1/\(gt cr i).1<=1000 /\ -1000<=(gt cr i).2/\(gt cr i).2<=1000 from λi hi=>by
  cases hw:wS (gt cr i) 1000 with
  | true=>exact Ah0 hw
  | false=>exact absurd (Bp.yes (f:=λi=>!wS (gt cr i) 1000) hi (by rw[hw];rfl)) (by rw[hz.out];simp))
 clear HG hz;let⟨eo,F⟩:=gN (C7 p.ed)
 have T:=Ar F;rw[F]at I;clear F;by_cases h0:eo=0
 .subst h0;have U:=Ar (show Ch p m=if C7 (Ej p m)≠0 then ([],C7 (Ej p m)) else (Ej p m,0) by rw[I.out,if_neg aL]);have b6:=Ar (D5 T.out)
  have nc:c<=16/\2<=c:=by
   have:=b6.out;rw[b5.out]at this;omega
  clear I
  go_upto_region 16 with (go_at_call 114;refine rR (Ie A1 c1 c p.ed v1 aK (a7.keep z)) λw3 B=>?_;rw[T.out])
  clear q0 q1 q2 q3 q4 q5 q6;have M:=An z B;have lg:=c6.keep M;have lf:=a7.keep M;have ba:=Y.keep M;have a8:=Ar (show ∀k,Af9 (Iq cr m k) from λk=>Zn (by rw[H.out];omega) k5 k6 (by rw[H.out];exact e8.out));have j3:=Ar (show ∀k,k<c->plW (edg p.ed k).ln (edg p.ed k).ln.length=0 from λk hk=>(b6.out.2.2.1 k (by rw[b5.out];exact hk)).2);have j1:=Ar (show ∀k,Fl p m (k+1)=Fl p m k++[⟨(edg p.ed k).nm,He (edg p.ed k).ln (Iq cr m k) (Iq cr m (k+1))⟩] from λk=>by rw[Fl,iy.out]);have dk:=Ar (show ∀k,Iq cr m k=(m*(gt cr (k % c)).1,m*(gt cr (k % c)).2) from λk=>by unfold Iq;rw[H.out]);have e0:=Ar (Js p m);have b3:=An D M;clear e8 H z B c6 a7 v9 v3 v6 la v4 v5 l5 l6 hP Y D M bb;go_loopw [9,10,11,12] (λv i _ _ wr=>∃k:Nat,k<=c/\i=.int .i64 k/\OwE wr w3 v (Fl p m k)/\Be w3 wr) λ_ i _ _ _=>c-(intOf i).toNat
  case atStart=>exact⟨0,aB,rfl,OwE.nil,bl0⟩
  obtain⟨k,hk,rfl,Q,z⟩:=hrel;let⟨t0,t1,t2,t3,t4,t5,t6⟩:=pc7 (ba.keep z);by_cases u:k<c
  .obtain⟨b0,G,rfl,fb,hc⟩:=(lg.keep z).at_ u;have gx:(k+1) % c<c:=bE _ aK;let⟨e1,e2⟩:=hc k u;let⟨e3,e4⟩:=hc _ gx;have mf:=Q6 ((k:Int)+1) (k+1) c;obtain⟨b1,o1,rfl,fc⟩:=lf.at_ u;let⟨e5,Al,cl,e6,g1,g2,g3⟩:=fc k u;have n5:b1<w3.heap.size:=Bi e5;replace e5:=Aq z e5;replace e6:=Aq z e6;replace g3:=g3.keep z;have R:=j3.out k u;have j:=j1.out k;have O:=e0.out k;let⟨l,N⟩:=gN ((edg p.ed k).ln)
   let⟨nm,h3⟩:=gN ((edg p.ed k).nm)
   rw[N]at e6 g1 g3 R j;rw[h3]at e5 j;let⟨nl,gy⟩:=gN l.length
   rw[gy]at e6 g1 g3 R;have A:=a8.out k;have t:=a8.out (k+1);have q1:=dk.out k;have q2:=dk.out (k+1);rw[cC u]at q1;rw[q1]at A j;rw[q2]at t j;let⟨S,a6⟩:=gN ((k+1) % c)
   rw[a6]at e3 e4 gx t j;have T1:Int.tmod ((k:Int)+1) (c:Int)=(S:Int):=by rw[<-a6,mf.1];rfl
   have T2:((k:Int)+1) % (c:Int)=(S:Int):=by rw[<-a6];rfl
   have W4:IntKind.i64.wrap (S:Int)=(S:Int):=aD
   have W5:IntKind.i64.wrap (Int.tmod ((k:Int)+1) (c:Int))=(S:Int):=by rw[T1];exact W4
   let⟨⟨cx,cy⟩,fr⟩:∃q,gt cr k=q:=⟨_,rfl⟩
   let⟨⟨dx,dy⟩,fs⟩:∃q,gt cr S=q:=⟨_,rfl⟩
   rw[fr]at e1 e2 A j;rw[fs]at e3 e4 t j;dsimp only at e1 e2 e3 e4 A t j;let⟨ca,bl⟩:=gN (m*cx)
   let⟨cb,bm⟩:=gN (m*cy)
   let⟨da,bq⟩:=gN (m*dx)
   let⟨db,bs⟩:=gN (m*dy)
   rw[bl,bm]at A j;rw[bq,bs]at t j;have W6:IntKind.i64.wrap (m*cx)=ca:=by rw[bl,bH];have:=A.1;have:=A.2.1;dsimp only at *;omega
   have W7:IntKind.i64.wrap (m*cy)=cb:=by rw[bm,bH];have:=A.2.2;dsimp only at *;omega
   have W8:IntKind.i64.wrap (m*dx)=da:=by rw[bq,bH];have:=t.1;have:=t.2.1;dsimp only at *;omega
   have W9:IntKind.i64.wrap (m*dy)=db:=by rw[bs,bH];have:=t.2.2;dsimp only at *;omega
   have HM:=Ar j;have B1:(0:Int)<=(k:Int):=aK
   have B2:(k:Int)<(c:Int):=aK
   have B3:(0:Int)<=(S:Int):=aK
   have B4:(S:Int)<(c:Int):=aK
   have B5:¬(c:Int)=0:=aK
   have B6:¬c=0:=aK
   have kk:=Aca (n:=c) aK;have W1:IntKind.i64.wrap ((k:Int)+1)=(k:Int)+1:=aD
   have e7:=Ar λ(w2:World) (h2:Be wr w2)=>hgr Al cl nl l nm (ca,cb) (da,db) w2 (g3.keep h2) R A t;let⟨L2,er⟩:=gN (He l (ca,cb) (da,db))
   rw[er]at e7 HM;let⟨E0,ee⟩:=gN (Fl p m k)
   rw[ee]at Q O HM;have ly:=Ar O;have n9:E0.length<=1000:=aK
   let⟨sv,h6⟩:∃sv,sv=u9:=⟨_,rfl⟩
   rw[<-h6]at Q ⊢;have ey:=ba.keep z;clear h6 hc fc N h3 gy fr fs j er ee A t R q1 q2 a6 mf bl bm bq bs g1 g2 g3 O fb;go_upto_region 18 with fail;clear t0 t1 t2 t3 t4 t5 t6;have d:=Aw (aV wr wr);have KF:=Ar λg (h:Be wr g)=>show Cq g w 4 (.slice (some ⟨b0,G,none⟩) c c3)/\Cq g b0 (G+k*2) cx/\Cq g b0 (G+k*2+1) cy/\Cq g b0 (G+S*2) dx/\Cq g b0 (G+S*2+1) dy from ⟨(pc7 (ey.keep h)).2.2.2.2.1,Aq h e1,Aq h e2,Aq h e3,Aq h e4⟩;go_cut [11,12] λva vb wx=>∃ga gb,va=.pointer (some ⟨ga,0,none⟩)/\vb=.pointer (some ⟨gb,0,none⟩)/\Bf wx ga 65 #[cx,cy]/\Bf wx gb 65 #[dx,dy]/\wr.heap.size<=ga/\wr.heap.size<=gb/\Be wr wx
   case first =>
    go_region_held3 (sB KF.out)
     (first
      | with_reducible exact KF.out _ d
      | with_reducible exact KF.out _ (Aw blA)
      | with_reducible exact KF.out _ (Aw (Ao blA)))
     (fail)
    all_goals go_wp2
    all_goals go_meet
    all_goals first
     | exact⟨_,_,rfl,rfl,Bf.drew ((Bf.new _ _ _).alloc _),Bf.drew (Bf.new2 _ _ _ _),aA,dU _,Aw (Ao blA)⟩
     | exact⟨_,_,rfl,rfl,Bf.drew (Bf.new2 _ _ _ _),Bf.drew ((Bf.new _ _ _).alloc _),dU _,aA,Aw (Ao blA)⟩
   obtain⟨ga,gb,rfl,rfl,eg,ek,sa,sb,C⟩:=hcut;have kh:=Q.keep C;have Z:=An z C;have ew:=ey.keep C;have f5:=Aq C e5;have f6:=Aq C e6;have kp:some ga≠sv.ownBlock:=λe=>by obtain⟨xs,h1,-⟩:=Q;have:=(OwG.lt h1 _ e.symm).2;omega
   have kq:some gb≠sv.ownBlock:=λe=>by obtain⟨xs,h1,-⟩:=Q;have:=(OwG.lt h1 _ e.symm).2;omega
   have R:=ba.lt;have p8:=z.size;have ow:=C.size
   have V:=Ar (λg (hp:Bf g w 50 #[.string p.nm,.slice (some ⟨b1,o1,none⟩) c c1,p.gr,.slice A2 p.nt.length c2,.slice (some ⟨b0,G,none⟩) c c3,.slice A4 p.wd.length c4,.bool p.mt]) (a:Bf g ga 65 #[cx,cy]) (b:Bf g gb 65 #[dx,dy]) (d1:Cq g b1 (o1+k*2) (.string nm)) (d2:Cq g b1 (o1+k*2+1) (.slice Al nl cl)) =>
    (show Cq g w 1 (.slice (some ⟨b1,o1,none⟩) c c1)/\Cq g b1 (o1+k*2) (.string nm)/\Cq g b1 (o1+k*2+1) (.slice Al nl cl)/\Cq g ga 0 cx/\Cq g ga 1 cy/\Cq g gb 0 dx/\Cq g gb 1 dy from ⟨(pc7 hp).2.1,d1,d2,(Fe a).1,(Fe a).2,(Fe b).1,(Fe b).2⟩))
   have HB:=Ar λg (h:Be wc g)=>V.out g (ew.keep h) (eg.keep h) (ek.keep h) (Aq h f5) (Aq h f6);have kl:some w.heap.size≠sv.ownBlock:=λe=>by obtain⟨xs,h1,-⟩:=Q;have:=(OwG.lt h1 _ e.symm).1;omega
   have h7:some b1≠sv.ownBlock:=λe=>by obtain⟨xs,h1,-⟩:=Q;have:=(OwG.lt h1 _ e.symm).1;omega
   have HG:=Ar (λ(W g:World) (h:Be wc W) (hg:W.grownBy g sv.ownBlock)=>V.out g ((ew.keep h).grown hg kl) ((eg.keep h).grown hg kp) ((ek.keep h).grown hg kq) ((hg.cell_far _ (by have:=h.size;simp;omega) h7).trans (Aq h f5)) ((hg.cell_far _ (by have:=h.size;simp;omega) h7).trans (Aq h f6)));clear T1 T2 W4 W5 B3 B4 B5 B6 kk;go_upto_region 19 with fail;have d:=Aw (aV wc wc)
   go_region_held3 (sB HB.out)
    (first
     | with_reducible exact HB.out _ d
     | with_reducible exact HB.out _ (Ao d)
     | with_reducible exact HG.out _ _ (Ao d) gw)
    ((first
      | (refine Tm rfl rfl w3 sv E0 rfl (OwE.keep kh (Ao d)) w8 1 nm A8 L2.length c8 L2 52 rfl (Bf.new _ _ _) ((fv.keep blA).lower bt) k3 (Ao (An Z d)).size (w8+1) ?_;intro g9 my w9 k9 gw n3 na h4)
      | (go_at_call 115;refine aF (e7.out _ (An C d)) λw8 v8 bu k2=>?_;obtain⟨A8,c8,rfl,-⟩:=OwG.form2 bu;have fv:=OwS.els bu;have bt:=bB Z.size d.size;have k3:c8<=9223372036854775807:=(by obtain⟨A',c',e',-,q',-⟩:=OwG.form2 bu;injection e' with e1 e2 e3;rw[e3];unfold maxLen at q';exact q');replace d:=An d k2)))
   all_goals clear W1
   all_goals go_wp2_with fail
   exact aE ⟨by rw[HM.out];exact k9,dS (Ao (An Z d)) gw (Ao (An Z d)).size λq hq=>(h4 q hq).1⟩
  obtain rfl:c=k:=aK
  have ds:=Ar (show Ej p m=Fl p m c by unfold Ej;rw[b5.out]);have a1:=e0.out c;let⟨E,hE⟩:=gN (Fl p m c)
  rw[hE]at Q ds a1;rw[ds.out]at U;obtain⟨A5,c5,rfl,i1,i2,i3⟩:=Q.eds;have HO:=Ar Q;rw[a1]at i1 i3 ⊢;have J:=Ar a1;let⟨eo,F⟩:=gN (C7 E)
  have ad:=Ar F;rw[F]at U;have fa:=An b3 z;clear hE F a1 Q b6 T;by_cases h5:eo=0
  .subst h5;have HR:=Ar (show Ch p m=(E,0) by rw[U.out,if_neg aL])
   go_wp2_with (go_at_call 114;refine rR (Ie A5 c5 c E i1 aK i3) λw5 K=>?_;rw[ad.out])
   go_ret2
   rw[HR.out];refine⟨A5,c5,?_,?_,i2,?_,An fa K⟩
   .rw[show ((E,(0:Int)).1).length=c from J.out];rfl
   .refine⟨by rw[show ((E,(0:Int)).1).length=c from J.out];exact i1,(HO.out.keep K).lower b3.size⟩
   rw[show ((E,(0:Int)).1).length=c from J.out];exact i3.keep K
  have HR:=Ar (show Ch p m=([],eo) by rw[U.out,if_pos h5]);have ov:(eo != 0)=true:=by simpa using h5
  clear h5
  go_wp2_with (go_at_call 114;refine rR (Ie A5 c5 c E i1 aK i3) λw5 K=>?_;rw[ad.out])
  go_ret2
  rw[HR.out];exact Xk.none_ (An fa K)
 have HR:=Ar (show Ch p m=([],eo) by rw[I.out,if_pos h0]);have oq:(eo != 0)=true:=by simpa using h0
 clear h0 I
 go_wp2_with (go_at_call 114;refine rR (Ie A1 c1 c p.ed v1 aK (a7.keep z)) λw3 B=>?_;rw[T.out])
 go_ret2
 rw[HR.out];exact Xk.none_ (An D (An z B))
theorem Mi(a:Array Value)(p:PieceP)(m:Int)(w:World)(c:PcV w a p):Calls prog 65 #[.agg a,m] w (Xk w (Ch p m)):=by
 cases h:wI m 100 with
 | false =>
   have:Ch p m=([],3):=by unfold Ch;rw[if_pos h]
   rw[this];exact Apq a p m w c h
 | true =>
   by_cases b:p.cr.length=p.ed.length
   .exact Apn a p m w c h b
   have:Ch p m=([],1):=by unfold Ch;rw[if_neg (by rw[h];simp),if_pos b]
   rw[this];exact Apo a p m w c h b
theorem Fz(a:Array Value)(p:PieceP)(m:Int)(w:World)(c:PcV w a p):Calls prog 88 #[.agg a,m] w (Xk w (Ch p m)):=by
 cases h:wI m 100 with
 | false =>
   have:Ch p m=([],3):=by unfold Ch;rw[if_pos h]
   rw[this];exact Apt a p m w c h
 | true =>
   by_cases b:p.cr.length=p.ed.length
   .exact Apr a p m w c h b
   have:Ch p m=([],1):=by unfold Ch;rw[if_neg (by rw[h];simp),if_pos b]
   rw[this];exact Aps a p m w c h b
theorem Sk{p:PieceP}{m:Int}(h:(Ch p m).2=0):(Ch p m).1=Ej p m/\C7 p.ed=0/\C7 (Ej p m)=0/\wI m 100=true:=by
 unfold Ch at h ⊢;split at h
 .cases h
 rename_i a;split at h
 .cases h
 rename_i d;split at h
 .cases h
 rename_i e;split at h
 .rename_i g;exact absurd h g
 rename_i b;split at h
 .rename_i g;exact absurd h g
 rename_i c;rw[if_neg a,if_neg d,if_neg e,if_neg b,if_neg c];exact⟨rfl,by simpa using b,by simpa using c,by simpa using a⟩
theorem Se{l:LP}(h:plW l c=0):(My l c).2=0:=by unfold My;rw[if_pos h]
def wk(w:World)(c:Int)(e:Ending)(a:World):Prop:=∃v u,e=.returned (.tuple #[v,u,c])/\Be w a
theorem Afo{p:PieceP}{E:List EdgeP}(d:p.ed.length=c)(a:∀j,j<c->plW (edg p.ed j).ln (edg p.ed j).ln.length=0)(b:∀j,j<c->plW (edg E j).ln (edg E j).ln.length=0):
 Uh p E k=if (gt p.nt k).1<0\/(c:Int)<=(gt p.nt k).1 then 3 else if Mb (My (edg p.ed (gt p.nt k).1.toNat).ln (edg p.ed (gt p.nt k).1.toNat).ln.length).1 (My (edg E (gt p.nt k).1.toNat).ln (edg E (gt p.nt k).1.toNat).ln.length).1 (gt p.nt k).2 then 3 else 0:=by
 unfold Uh;rw[d];by_cases h:(gt p.nt k).1<0\/(c:Int)<=(gt p.nt k).1
 .rw[if_pos h,if_pos h]
 rw[if_neg h,if_neg h,if_neg (by rw[Se (a _ (by omega))];simp),if_neg (by rw[Se (b _ (by omega))];simp)]
def Ak7(w:World)(c:Int)(e:Ending)(a:World):Prop:=∃v,e=.returned (.tuple #[v,c])/\Be w a
theorem Aic{f:Nat}{R:World->Int->Ending->World->Prop}(o:f=135/\R=wk\/f=160/\R=Ak7)(k:Array Value)(p:PieceP)(m:Int)(w:World)(j:PcV w k p)(h:(Ch p m).2≠0):Calls prog f #[.agg k,m] w (R w (Ch p m).2):=by
 rcases o with⟨rfl,rfl⟩|⟨rfl,rfl⟩
 have d:=@Fz;have s:=trivial
 rotate_left 1
 have d:=@Mi;have t:=trivial
 rotate_left 1
 all_goals
  have i:=j;let⟨r,g⟩:=gN (Ch p m)
  have l:=Ar g;rw[g]at h ⊢;obtain⟨E,c⟩:=r;dsimp only at h ⊢;have q:(c != 0)=true:=by simpa using h
  clear g h;obtain⟨y,D,z,F,A,G,B,H,rfl,⟨Q,S,T⟩,⟨U,V,W⟩,⟨Y,Z,v9⟩,⟨u,v,x⟩⟩:=j;go_in;go_upto_region 1 with fail;refine Bq λX a n=>?_
  let⟨J,K,L,M,N,O,P⟩:=pc7 n
  go_wp2_with ((first|go_at_call 88|go_at_call 65);refine(d _ p m _ (i.keep a)).mono ?_;rintro e w1 ⟨C,I,rfl,-,-,-,b⟩;rw[l.out])
  first|(go_ret3)|(go_ret2)
  first|(exact⟨_,_,rfl,An a b⟩)|(exact⟨_,rfl,An a b⟩)
def Ao7:=@Aic 135 wk (.inl ⟨rfl,rfl⟩)
def Apm:=@Aic 160 Ak7 (.inr ⟨rfl,rfl⟩)
theorem Aib{f:Nat}{R:World->Int->Ending->World->Prop}(hf:f=135/\R=wk\/f=160/\R=Ak7)(vs:Array Value)(p:PieceP)(m:Int)(w:World)(hv:PcV w vs p)(h:(Ch p m).2=0):Calls prog f #[.agg vs,m] w (R w (Iy p m)):=by
 rcases hf with⟨rfl,rfl⟩|⟨rfl,rfl⟩
 have ad:=@Fz;have G:=@zq;have H:=@mq;have a7:=trivial
 rotate_left 1
 have ad:=@Mi;have G:=@Amy;have H:=@Ao9;have a8:=trivial
 rotate_left 1
 all_goals
  have cf:=hv;obtain⟨g1,g2,g3,-⟩:=Sk h;have B:=Ar (show Iy p m=if 16<p.nt.length then 5 else Fh (Uh p (Ej p m)) p.nt.length by unfold Iy;rw[if_neg (by rw[h];simp),g1]);have C:=Ar (show Ch p m=(Ej p m,0) from Prod.ext g1 h);have o1:=D5 g2;have o2:=D5 g3;have u:(Ej p m).length=p.ed.length:=by unfold Ej;exact Js p m _
  let⟨E,hE⟩:=gN (Ej p m)
  rw[hE]at C B o2 u;have bd:=Ar (λk=>Afo (p:=p) (E:=E) (k:=k) rfl (λj o=>(o1.2.2.1 j o).2) λj o=>(o2.2.2.1 j (by rw[u];exact o)).2);have bl:=Ar λj (o:j<p.ed.length)=>Er (o1.2.2.1 j o).2;have bm:=Ar (λj (o:j<p.ed.length)=>Er (o2.2.2.1 j (by rw[u];exact o)).2);have bb:=Ar λj (o:j<p.ed.length)=>Se (o1.2.2.1 j o).2;have bc:=Ar (λj (o:j<p.ed.length)=>Se (o2.2.2.1 j (by rw[u];exact o)).2);have ba:=Ar u;have cd:=o1.2.1;clear g1 g2 g3 h o1 o2 hE u;obtain⟨A1,c1,A2,c2,A3,c3,A4,c4,rfl,⟨v1,v2,v3⟩,⟨v4,v5,v6⟩,⟨v7,v8,v9⟩,⟨k4,k5,fs⟩⟩:=hv;go_in;go_upto_region 1 with fail;refine Bq λX t N=>?_
  let⟨p0,p1,p2,p3,p4,p5,p6⟩:=pc7 N;let⟨n1,W⟩:=gN p.ed.length
  let⟨M,Z⟩:=gN p.nt.length
  rw[W]at p1 v1 v3 N bd bl bm bb bc ba cd;rw[Z]at p3 v4 v6 N B;have cw:=v3.keep t;have cx:=v6.keep t;have K:=cf.keep t;rw[W,Z]at K;clear W Z cf v3 v6 v9 fs;by_cases bs:16<M
  .have HF:=Ar (show Iy p m=5 by rw[B.out,if_pos bs])
   go_wp2_with ((first|go_at_call 88|go_at_call 65);refine(ad _ p m _ K).mono ?_;rintro e w1 ⟨A5,c5,rfl,-,-,-,b⟩;rw[C.out];let⟨q0,P,q2,q3,q4,q5,q6⟩:=pc7 (N.keep b))
   first|(go_ret3)|(go_ret2)
   rw[HF.out]
   first|(exact⟨_,_,rfl,An t b⟩)|(exact⟨_,rfl,An t b⟩)
  have HF:=Ar (show Iy p m=Fh (Uh p E) M by rw[B.out,if_neg bs]);have eg:=N
  go_upto_region 8 with ((first|go_at_call 88|go_at_call 65);refine(ad _ p m _ K).mono ?_;rintro e w1 ⟨A5,c5,rfl,⟨i1,-⟩,i2,i3,b⟩;rw[C.out]at i1 i3 ⊢;dsimp only at i1 i3 ⊢;rw[ba.out]at i1 i3 ⊢;let⟨q0,P,q2,q3,q4,q5,q6⟩:=pc7 (N.keep b))
  have gf:=cw.keep b;have gx:=cx.keep b;have bx:=N.keep b;have HK:=Ar (λk (hk:k<M) (h0:Fh (Uh p E) k=0) (h3:Uh p E k≠0)=>show Iy p m=Uh p E k by rw[HF.out];exact Mk hk h0 h3);have s:=An t b;clear q0 P q2 q3 q4 q5 q6 p0 p1 p2 p3 p4 p5 p6 N eg K cw cx t b B
  first|(have:=a7;go_loopw [9,11,12,13,14,15,32] (λv _ _ _ _ _ i wr=>∃(k:Nat) (z:List Int),k<=M/\i=k/\Hid (Fh (Uh p E) k=0)/\OwI wr w1 v z/\z.length=k/\Be w1 wr) λ_ _ _ _ _ _ i _=>M-(intOf i).toNat)|(have:=a8;go_loopw [8,9,10,11,12,13,14,15,16] (λv i _ _ _ _ _ _ _ wr=>∃(k:Nat) (z:List Int),k<=M/\i=k/\Hid (Fh (Uh p E) k=0)/\OwI wr w1 v z/\z.length=k/\Be w1 wr) λ_ i _ _ _ _ _ _ _ _=>M-(intOf i).toNat)
  case atStart=>exact⟨0,[],aB,rfl,Ar rfl,OwG.nil,rfl,bl0⟩
  obtain⟨k,z,hk,rfl,L,ho,ck,A⟩:=hrel;by_cases V:k<M
  .obtain⟨b0,j8,rfl,-,hc⟩:=(gx.keep A).at_ V;let⟨e1,e2⟩:=hc k V;have HN:=Ar (bd.out k);have Q:=Ar (HK.out k V L.out);have O:Fh (Uh p E) (k+1)=Uh p E k:=Ga L.out;have e9:=Ar O;let⟨⟨x,y⟩,cj⟩:∃q,gt p.nt k=q:=⟨_,rfl⟩
   rw[cj]at e1 e2 HN;dsimp only at e1 e2 HN;let⟨q0,P,q2,q3,q4,q5,q6⟩:=pc7 (bx.keep A);have ec:=Ar ck;have j7:z.length<=1000:=aK
   clear hc cj O ck;by_cases cg:x<0
   .have C:=Ar (show Iy p m=3 by
     have e:Uh p E k=3:=by rw[HN.out,if_pos (Or.inl cg)]
     rw[<-e];exact Q.out (by rw[e];decide))
    go_wp2_with fail
    first|(go_ret3)|(go_ret2)
    rw[C.out]
    first|(exact⟨_,_,rfl,An s (Ao A)⟩)|(exact⟨_,rfl,An s (Ao A)⟩)
   by_cases a6:(n1:Int)<=x
   .have C:=Ar (show Iy p m=3 by
     have e:Uh p E k=3:=by rw[HN.out,if_pos (Or.inr a6)]
     rw[<-e];exact Q.out (by rw[e];decide))
    obtain⟨j,rfl⟩:∃j:Nat,x=j:=⟨x.toNat,aK⟩
    have B1:(n1:Int)<=(j:Int):=a6
    first|(have:=a7;go_upto_region 10 with fail)|(have:=a8;go_upto_region 11 with fail)
    refine Bq λY d hV=>?_
    let⟨t0,t1⟩:=Fe hV;have Q1:=Aq d P;clear q0 P q2 q3 q4 q5 q6 e1 e2;go_wp2_with fail;all_goals first|(go_ret3)|(go_ret2)
    all_goals rw[C.out]
    all_goals first|(exact⟨_,_,rfl,An s (An A d)⟩)|(exact⟨_,rfl,An s (An A d)⟩)
   obtain⟨j,rfl⟩:∃j:Nat,x=j:=⟨x.toNat,aK⟩
   have o:j<n1:=aK
   obtain⟨b1,o1,rfl,c0⟩:=(gf.keep A).at_ o;obtain⟨b2,o2,rfl,c6⟩:=(i3.keep A).at_ o;obtain⟨-,Al,cl,d1,r1,r2,r3⟩:=c0 j o;obtain⟨-,Am,cm,f1,s1,s2,s3⟩:=c6 j o;have g:=Ar (show Uh p E k=if Mb (My (edg p.ed j).ln (edg p.ed j).ln.length).1 (My (edg E j).ln (edg E j).ln.length).1 y then 3 else 0 by rw[HN.out,if_neg aK];rfl);have D:=bb.out j o;have F:=bc.out j o;have b:=bl.out j o;have U:=bm.out j o;let⟨l1,c9⟩:=gN ((edg p.ed j).ln)
   let⟨l2,ca⟩:=gN ((edg E j).ln)
   rw[c9]at d1 r1 r3 g D b;rw[ca]at f1 s1 s3 g F U;let⟨m1,cb⟩:=gN l1.length
   let⟨m2,cc⟩:=gN l2.length
   rw[cb]at d1 r1 r3 g D b;rw[cc]at f1 s1 s3 g F U;let⟨⟨L1,z1⟩,S⟩:∃l,My l1 m1=l:=⟨_,rfl⟩
   let⟨⟨L2,z2⟩,T⟩:∃l,My l2 m2=l:=⟨_,rfl⟩
   rw[S]at g D;rw[T]at g F;dsimp only at g D F;subst D F;have HA:=Ar S;have HB:=Ar T;have B1:(j:Int)<(n1:Int):=aK
   have bt:m1<=9223372036854775807:=aK
   have bu:m2<=9223372036854775807:=aK
   let⟨pb,a1⟩:=gN (Mb L1 L2 y)
   have I:=Ar a1;rw[a1]at g;clear c0 c6 c9 ca cb cc S T cg a6 a1 b U r1 s1 HN
   first|(have:=a7;go_upto_region 10 with fail)|(have:=a8;go_upto_region 11 with fail)
   refine Bq λY d hV=>?_
   let⟨t0,t1⟩:=Fe hV;have Q1:=Aq d P;have D1:=Aq d d1;have F1:=Aq d f1;have R3:=r3.keep d;have S3:=s3.keep d;have hO:=OwG.keep ho d;have J:=An A d;clear q0 P q2 q3 q4 q5 q6 d1 f1 r3 s3 ho e1 e2;cases pb with
   | true =>
     have C:=Ar (show Iy p m=3 by
      have e:Uh p E k=3:=by rw[g.out];rfl
      rw[<-e];exact Q.out (by rw[e];decide))
     go_wp2_with (first
      | ((first|go_at_call 199|go_at_call 218);have L:=c;refine(G L1 L2 y _).mono ?_;rintro e w6 ⟨pz,rfl,r⟩;rw[I.out];simp only[if_true])
      | ((first|go_at_call 199|go_at_call 218);have L:=c;refine(G L1 L2 y _).mono ?_;rintro e w6 ⟨⟨pz,rfl⟩,r⟩;rw[I.out];simp only[if_true])
      | ((first|go_at_call 198|go_at_call 217);have L:=a;refine rR (H Am cm m2 l2 _ bu (S3.keep a)) λw5 c=>?_;rw[HB.out];have cu:=Aq c ai)
      | ((first|go_at_call 198|go_at_call 217);refine rR (H Al cl m1 l1 _ bt R3) λw4 a=>?_;rw[HA.out];have fc:=Aq a t0;have ai:=Aq a t1;have e7:=Aq a F1))
     first|(go_ret3)|(go_ret2)
     rw[C.out]
     first|(exact⟨_,_,rfl,An s (An (An (An J a) c) r)⟩)|(exact⟨_,rfl,An s (An (An (An J a) c) r)⟩)
   | false =>
     have e8:=Ar (show Fh (Uh p E) (k+1)=0 by rw[e9.out,g.out];rfl)
     go_wp2_with (first
      | ((first|go_at_call 199|go_at_call 218);have L:=c;refine(G L1 L2 y _).mono ?_;rintro e w6 ⟨pz,rfl,r⟩;rw[I.out];simp only[Bool.false_eq_true,if_false])
      | ((first|go_at_call 199|go_at_call 218);have L:=c;refine(G L1 L2 y _).mono ?_;rintro e w6 ⟨⟨pz,rfl⟩,r⟩;rw[I.out];simp only[Bool.false_eq_true,if_false])
      | ((first|go_at_call 198|go_at_call 217);have L:=a;refine rR (H Am cm m2 l2 _ bu (S3.keep a)) λw5 c=>?_;rw[HB.out];have cu:=Aq c ai)
      | ((first|go_at_call 198|go_at_call 217);refine rR (H Al cl m1 l1 _ bt R3) λw4 a=>?_;rw[HA.out];have fc:=Aq a t0;have ai:=Aq a t1;have e7:=Aq a F1)
      | (at_builtin;refine Kb rfl w1 z (OwG.alloc (OwG.keep (OwG.keep (OwG.keep hO a) c) r) _) _ 1 1 [pz] (InS.new _ _ _) (λh=>by cases h) aK (Ao (An (An (An J a) c) r)).size ?_;intro v7 w7 er eo hr))
     exact⟨⟨k+1,z++[pz],aK,aP,e8,er,by rw[bA,ec.out];rfl,Bk (Ao (An (An (An J a) c) r)) (OwG.alloc (OwG.keep (OwG.keep (OwG.keep hO a) c) r) _) eo⟩,aI⟩
  obtain rfl:M=k:=aK
  let⟨q0,P,q2,q3,q4,q5,q6⟩:=pc7 (bx.keep A);have C:=Ar (show Iy p m=0 by rw[HF.out,L.out])
  go_wp2_with fail
  first|(go_ret3)|(go_ret2)
  rw[C.out]
  first|(exact⟨_,_,rfl,An s A⟩)|(exact⟨_,rfl,An s A⟩)
def Ao6:=@Aib 135 wk (.inl ⟨rfl,rfl⟩)
def Apl:=@Aib 160 Ak7 (.inr ⟨rfl,rfl⟩)
theorem rh(p:PieceP)(m:Int)(b:PcV w a p):Calls prog 160 #[.agg a,m] w (Ak7 w (Iy p m)):=by
 by_cases h:(Ch p m).2=0
 .exact Apl a p m w b h
 have:Iy p m=(Ch p m).2:=by unfold Iy;rw[if_pos h]
 rw[this];exact Apm a p m w b h
theorem dm(p:PieceP)(m:Int)(b:PcV w a p):Calls prog 135 #[.agg a,m] w (wk w (Iy p m)):=by
 by_cases h:(Ch p m).2=0
 .exact Ao6 a p m w b h
 have:Iy p m=(Ch p m).2:=by unfold Iy;rw[if_pos h]
 rw[this];exact Ao7 a p m w b h
theorem Kj(p:PieceP)(m:Int)(f:PcV w a p):Calls prog 89 #[.agg a,m] w λe h=>∃v,e=.returned (.tuple #[v,(Iy p m)])/\Be w h:=by
 have d:=f;obtain⟨i,n,j,o,k,q,l,r,rfl,-⟩:=f;go_in;go_upto_region 1 with fail;refine Bq λX b g=>?_
 let⟨s,t,x,y,z,A,B⟩:=pc7 g
 go_wp2_with (go_at_call 135;refine(dm p m (d.keep b)).mono ?_;rintro e C ⟨v,u,rfl,c⟩)
 go_ret2
 exact⟨_,rfl,An b c⟩
def pwB(l:List Int)(j:Nat):Bool:=decide (gi l j<0) || decide (500<gi l j)
def pcE(Q:List PieceP)(i:Nat)(p:PieceP):Int :=
 if Cy p.nm=false then 1 else if p.gr≠1/\p.gr≠2/\p.gr≠4 then 1
 else if Bp (λj=>Gq (pce Q j).nm p.nm) i then 7
 else if (Ch p 0).2≠0 then (Ch p 0).2 else if Iy p 0≠0 then Iy p 0
 else if p.wd.length≠p.ed.length then 1 else if Bp (pwB p.wd) p.wd.length then 3 else 0
theorem Adn(P:List PieceP)(i:Nat):Ee P i=pcE (P.take i) i (pce P i):=by
 unfold Ee pcE;rw[Bp.congr (n:=i) (f:=λj=>Gq (pce P j).nm (pce P i).nm) (g:=λj=>Gq (pce (P.take i) j).nm (pce P i).nm) λk a=>by rw[Yn a]];rfl
theorem Aqf(A:Option Addr)(a i:Nat)(d:Array Value)(p:PieceP)(w:World)(j:PcV w d p)(h:Cy p.nm=false):Calls prog 51 #[.slice A i a,.agg d] w (Bz w (.int .i64 1)):=by
 have f:=Ar h;clear h;obtain⟨n,s,o,t,q,u,r,v,rfl,⟨F,G,H⟩,⟨I,J,K⟩,⟨L,M,N⟩,⟨k,l,m⟩⟩:=j;go_enter func51,ntmps51;go_upto_region 1 with fail;refine Bq λX c g=>?_
 let⟨x,y,z,B,C,D,E⟩:=pc7 g
 go_wp2_with (go_at_call 85;refine rR (Hp p.nm _) λO b=>?_;rw[f.out])
 go_ret;exact⟨rfl,An c b⟩
theorem Aqe(A:Option Addr)(c i:Nat)(f:Array Value)(p:PieceP)(w:World)(k:PcV w f p)(h:Cy p.nm=true)(b:p.gr≠1/\p.gr≠2/\p.gr≠4):Calls prog 51 #[.slice A i c,.agg f] w (Bz w (.int .i64 1)):=by
 have g:=Ar h
 have B:(p.gr != 2)=true:=by simpa using b.2.1
 have C:(p.gr != 4)=true:=by simpa using b.2.2
 obtain⟨q,u,r,v,s,x,t,y,rfl,⟨K,L,M⟩,⟨N,O,P⟩,⟨Q,R,S⟩,⟨m,n,o⟩⟩:=k;go_enter func51,ntmps51;go_upto_region 1 with fail;refine Bq λX d j=>?_
 let⟨D,E,l,F,G,H,I⟩:=pc7 j
 go_wp2_with (go_at_call 85;refine rR (Hp p.nm _) λT a=>?_;rw[g.out];have J:=Aq a l)
 all_goals go_ret
 all_goals exact⟨rfl,An d a⟩
theorem Aqd(A:Option Addr)(b8 i:Nat)(Q:List PieceP)(vs:Array Value)(p:PieceP)(w:World)(hi:i<=1000)(hQ:PcS w A i Q)(hv:PcV w vs p)(h:Cy p.nm=true)(E:p.gr=1\/p.gr=2\/p.gr=4):Calls prog 51 #[.slice A i b8,.agg vs] w (Bz w (pcE Q i p)):=by
 rcases E with E|E|E
 all_goals (
  have HE:=Ar (show pcE Q i p=if Bp (λj=>Gq (pce Q j).nm p.nm) i then 7
   else if (Ch p 0).2≠0 then (Ch p 0).2 else if Iy p 0≠0 then Iy p 0
   else if p.wd.length≠p.ed.length then 1 else if Bp (pwB p.wd) p.wd.length then 3 else 0 by
   unfold pcE;rw[if_neg (by rw[h];simp),if_neg (by rw[E];decide)])
  have HN:=Ar h;have HG:=Ar E;clear h E;have Z:=hv;obtain⟨A1,c1,A2,c2,A3,c3,A4,c4,rfl,⟨v1,v2,v3⟩,⟨v4,v5,v6⟩,⟨v7,v8,v9⟩,⟨cb,fr,ad⟩⟩:=hv;go_enter func51,ntmps51;go_upto_region 1 with fail;refine Bq λX I hP=>?_
  let⟨p0,p1,p2,p3,p4,p5,p6⟩:=pc7 hP;rw[HG.out]at p2 hP;let⟨nm,W⟩:=gN p.nm
  have T:=Ar W;clear W
  go_upto_region 6 with (go_at_call 85;refine rR (Hp p.nm _) λw1 u=>?_;rw[HN.out];have q2:=Aq u p2)
  have F:=hP.keep u;have U:=hQ.keep (An I u);clear p0 p1 p2 p3 p4 p5 p6 q2;go_loopw [6,32] (λ_ c wr=>∃k:Nat,k<=i/\c=k/\Hid (Bp (λj=>Gq (pce Q j).nm p.nm) k=false)/\Be w1 wr) λ_ c _=>i-(intOf c).toNat
  case atStart=>exact⟨0,aB,rfl,Ar (Bp.zero _),bl0⟩
  obtain⟨k,hk,rfl,hz,G⟩:=hrel;by_cases r:k<i
  .obtain⟨b0,ew,rfl,gx,a1,l⟩:=(U.keep G).at_ r;obtain⟨E1,d1,E2,d2,E3,d3,E4,d4,rfl,-⟩:=a1;let⟨k0,k1,k2,k3,k4,k5,k6⟩:=c7 l;clear l;let⟨pk,M⟩:=gN (pce Q k)
   have b5:=Ar M;rw[M]at k0 k1 k2 k3 k4 k5 k6;clear M;have f0:=(pc7 (F.keep G)).1;rw[T.out]at f0;have B1:(k:Int)<(i:Int):=aK
   go_upto_region 8 with fail;refine Bq λY J hV=>?_
   have g0:=(pc7 hV).1;have f1:=Aq J f0;clear k0 k1 k2 k3 k4 k5 k6 f0;let⟨pn,N⟩:=gN pk.nm
   have b6:=Ar N;rw[N]at g0;clear N;let⟨bb,bc⟩:=gN (pn.toList == nm.toList)
   have HS:Hid (Gq (pce Q k).nm p.nm=bb):=Ar (by rw[b5.out,b6.out,T.out];exact bc);cases bb with
   | true =>
     have m:=Ar (show pcE Q i p=7 by rw[HE.out,if_pos (Bp.yes (f:=λj=>Gq (pce Q j).nm p.nm) r HS.out)])
     go_wp2;go_ret;exact⟨by rw[m.out];rfl,An I (An u (An G J))⟩
   | false =>
     have HP:=Bp.succ (f:=λj=>Gq (pce Q j).nm p.nm) hz.out HS.out
     go_wp2_with fail;exact aE ⟨Ar HP,An G J⟩
  obtain rfl:i=k:=aK
  have R:=Ar (show pcE Q i p=if (Ch p 0).2≠0 then (Ch p 0).2 else if Iy p 0≠0 then Iy p 0
   else if p.wd.length≠p.ed.length then 1 else if Bp (pwB p.wd) p.wd.length then 3 else 0 by rw[HE.out,if_neg (by rw[hz.out];simp)])
  have o:=An I (An u G);have b:=F.keep G;let⟨p0,p1,p2,p3,p4,p5,p6⟩:=pc7 b;have g:=Z.keep o;have C:=ad.keep o;clear G U F hP hQ Z v3 v6 v9 ad;let⟨c,l⟩:=gN ((Ch p 0).2)
  by_cases v:c=0
  .subst v
   have S:=Ar (show pcE Q i p=if Iy p 0≠0 then Iy p 0
    else if p.wd.length≠p.ed.length then 1 else if Bp (pwB p.wd) p.wd.length then 3 else 0 by rw[R.out,if_neg (by rw[l];simp)])
   have P:=Ar l;clear l;let⟨c,l⟩:=gN (Iy p 0)
   by_cases v:c=0
   .subst v;have z:=Ar (show pcE Q i p=if p.wd.length≠p.ed.length then 1 else if Bp (pwB p.wd) p.wd.length then 3 else 0 by rw[S.out,if_neg (by rw[l];simp)]);have y:=Ar l;clear l;let⟨n4,L⟩:=gN p.wd.length
    let⟨n1,K⟩:=gN p.ed.length
    rw[L]at z p5 cb C b;rw[K]at z p1 v1 b;have t:Hid (PcV wr #[.string p.nm,.slice A1 n1 c1,p.gr,.slice A2 p.nt.length c2,.slice A3 p.cr.length c3,.slice A4 n4 c4,.bool p.mt] p):=Ar (by rw[L,K]at g;exact g);rw[HG.out]at t;clear K L g;by_cases V:n4=n1
    .have B:((n4:Int) != (n1:Int))=false:=by rw[V];simp
     have D:=Ar (show pcE Q i p=if Bp (pwB p.wd) n4 then 3 else 0 by rw[z.out,if_neg (by simp[V])]);clear V
     go_upto_region 20 with (first
      | (go_at_call 89;have a7:=a;refine(Kj p 0 (t.out.keep a)).mono ?_;rintro e w4 ⟨pz,rfl,d⟩;rw[y.out];let⟨s0,s1,s2,s3,s4,s5,s6⟩:=pc7 (b.keep (An a d)))
      | (go_at_call 88;refine(Fz _ p 0 _ t.out).mono ?_;rintro e w3 ⟨A5,c5,rfl,-,-,-,a⟩;rw[P.out];let⟨r0,r1,r2,r3,r4,r5,r6⟩:=pc7 (b.keep a)))
     have H:=An o (An a d);have vW:=C.keep (An a d);clear r0 r1 r2 r3 r4 r5 r6 s0 s1 s2 s3 s4 s5 s6 p0 p1 p2 p3 p4 p5 p6 B;go_loopw [12,68] (λ_ c wx=>∃k:Nat,k<=n4/\c=k/\Hid (Bp (pwB p.wd) k=false)/\Hid (w4=wx)) λ_ c _=>n4-(intOf c).toNat
     case atStart=>exact⟨0,aB,rfl,Ar (Bp.zero _),Ar rfl⟩
     obtain⟨k,hk,rfl,a6,bl⟩:=hrel;obtain rfl:=bl.out;by_cases r:k<n4
     .obtain⟨b9,db,rfl,bd⟩:=vW.at_ r;have B1:(k:Int)<(n4:Int):=aK
      let⟨x,O⟩:=gN (gi p.wd k)
      rw[O]at bd;by_cases v:x<0
      .have m:=Ar (show pcE Q i p=3 by rw[D.out,if_pos (Bp.yes (f:=pwB p.wd) r (by unfold pwB;rw[O];simp;omega))]);clear O;go_wp2;all_goals go_ret
       all_goals exact⟨by rw[m.out];rfl,H⟩
      by_cases h5:500<x
      .have m:=Ar (show pcE Q i p=3 by rw[D.out,if_pos (Bp.yes (f:=pwB p.wd) r (by unfold pwB;rw[O];simp;omega))]);clear O;go_wp2;all_goals go_ret
       all_goals exact⟨by rw[m.out];rfl,H⟩
      have HP:=Bp.succ (f:=pwB p.wd) a6.out (by unfold pwB;rw[O];simp;omega);clear O;go_wp2_with fail;all_goals exact aE ⟨Ar HP,by first|exact Ar rfl|exact Ar trivial⟩
     obtain rfl:n4=k:=aK
     have m:=Ar (show pcE Q i p=0 by rw[D.out,if_neg (by rw[a6.out];simp)])
     go_wp2;go_ret;exact⟨by rw[m.out];rfl,H⟩
    have B:((n4:Int) != (n1:Int))=true:=by rw[eT];omega
    have m:=Ar (show pcE Q i p=1 by rw[z.out,if_pos V]);clear V
    go_wp2_with (first
     | (go_at_call 89;have a7:=a;refine(Kj p 0 (t.out.keep a)).mono ?_;rintro e w4 ⟨pz,rfl,d⟩;rw[y.out];let⟨s0,s1,s2,s3,s4,s5,s6⟩:=pc7 (b.keep (An a d)))
     | (go_at_call 88;refine(Fz _ p 0 _ t.out).mono ?_;rintro e w3 ⟨A5,c5,rfl,-,-,-,a⟩;rw[P.out];let⟨r0,r1,r2,r3,r4,r5,r6⟩:=pc7 (b.keep a)))
    go_ret;exact⟨by rw[m.out];rfl,An o (An a d)⟩
   have B:(c != 0)=true:=by simpa using v
   have m:=Ar (show pcE Q i p=c by rw[S.out,l,if_pos v]);have y:=Ar l;rw[HG.out]at g;clear l v
   go_wp2_with (first
    | (go_at_call 89;have a7:=a;refine(Kj p 0 (g.keep a)).mono ?_;rintro e w4 ⟨pz,rfl,d⟩;rw[y.out])
    | (go_at_call 88;refine(Fz _ p 0 _ g).mono ?_;rintro e w3 ⟨A5,c5,rfl,-,-,-,a⟩;rw[P.out];let⟨r0,r1,r2,r3,r4,r5,r6⟩:=pc7 (b.keep a)))
   go_ret;exact⟨by rw[m.out];rfl,An o (An a d)⟩
  have B:(c != 0)=true:=by simpa using v
  have m:=Ar (show pcE Q i p=c by rw[R.out,l,if_pos v]);have P:=Ar l;rw[HG.out]at g;clear l v
  go_wp2_with (go_at_call 88;refine(Fz _ p 0 _ g).mono ?_;rintro e w3 ⟨A5,c5,rfl,-,-,-,a⟩;rw[P.out])
  go_ret;exact⟨by rw[m.out];rfl,An o a⟩)
theorem U8(i:Nat)(Q:List PieceP)(p:PieceP)(e:PcS w A i Q)(b:PcV w a p)(f:i<=1000:=by omega):Calls prog 51 #[.slice A i c,.agg a] w (Bz w (pcE Q i p)):=by
 cases hn:Cy p.nm with
 | false =>
   rw[show pcE Q i p=1 by unfold pcE;rw[if_pos hn]];exact Aqf A c i a p w b hn
 | true =>
   by_cases d:p.gr=1\/p.gr=2\/p.gr=4
   .exact Aqd A c i Q a p w f e b hn d
   rw[show pcE Q i p=1 by unfold pcE;rw[if_neg (by rw[hn];simp),if_pos aK]];exact Aqe A c i a p w b hn aK
end Go.Proofs.YtboghahlhmnblaaGreat
