/- Lean texts of the claim. -/
import Derived.Test.YtboghahlhmnblaaGreatZv20
import Derived.Test.YtboghahlhmnblaaGreatZv19
namespace Go.Proofs.YtboghahlhmnblaaGreat
set_option linter.all false
set_option maxRecDepth 100000
set_option maxHeartbeats 0
open Go.RowKit Go.Proofs.Tryz
variable{a:World}{b:Nat}{c:TypeId}{e:Value}{l:List (Int×Int)}{k:Nat}{s x:Operand}{Z:Prop}{w:World}
section
open Ears in
theorem Ag3(h:Bg l l.length=0):F4 l l.length l.length≠0:=by
 let⟨b,d,a,g⟩:=Je h
 have c:∀q∈l,Du 1048576 q:=λq hq=>by
  obtain⟨i,f,rfl⟩:=rk hq;have:=a i f;unfold Nd at this;unfold Du;omega
 rw[area_ar c];have o:=Ayl (As0 c b g) (by rw[List.length_map];exact b);intro e;have s:=Av7 l;rw[e]at s;cases hm:lam (l.map shr) with
 | true=>have:=o.1 hm;omega
 | false=>have:=o.2 hm;omega
end
theorem Ajd{l:LP}(h:plW l b=0)(a:k+1<b):gt l k≠gt l (k+1):=by
 unfold plW at h;split at h
 .cases h
 split at h
 .cases h
 split at h
 .cases h
 split at h
 .cases h
 rename_i g;intro e;exact g (Bp.yes (f:=λi=>eqS (gt l i) (gt l (i+1))) (show k<b-1 by omega) ((Ge _ _).2 e))
def Abd(r:SgR):List Value:=[r.a.1,r.a.2,r.b.1,r.b.2,r.w,r.s.1,r.s.2]
theorem Zg(c:SgR):(Abd c).length=7:=rfl
theorem Abc(c:SgR):∀u∈Abd c,u.oneCell'=true:=by
 intro u a;simp[Abd]at a;rcases a with rfl|rfl|rfl|rfl|rfl|rfl|rfl<;>rfl
theorem Ajz:(prog.info? 128).map (λi=>(i.zero,i.size,i.bytes))=some (some (.agg #[.int .i64 0,.int .i64 0,.int .i64 0,.int .i64 0,.int .i64 0,.int .i64 0,.int .i64 0]),7,56):=aN
def Aej(w:World)(a:Nat)(v:Value)(l:List SgR):Prop:=OwG 128 7 Abd w a v l
theorem ae{E:Array Oper}{o:Oper}{a:Act}{K:Act->World->Prop}{Q:Exit->Act->World->Prop}(r:o.guard=none)
 (M:o.op=.call { callee:=.builtin .append,args:=#[s,x],argTypes:=#[123,123] })
 (b:Nat) (v:Value) (l:List SgR) (N:a.eval s=v) (m:Aej w b v l)
 (n c:Nat) (p:SgR) (tb:TypeId) (O:a.eval x=.slice (some ⟨n,0,none⟩) 1 c) (k:Bf w n tb (Abd p).toArray)
 (F:l.length<=1000000) (e:b<=w.heap.size) (H:Nat) (G:w.heap.size=H)
 (h:∀g d f,Aej f b (.slice (some ⟨g,0,none⟩) (l.length+1) d) (l++[p])->w.grownBy f v.ownBlock->(v.ownBlock=some g\/g=H)->g<f.heap.size->K (a.put o.dst (.slice (some ⟨g,0,none⟩) (l.length+1) d)) f) :
 if Region.wanted o (yielded E a.tmps)=true then Oper.wp prog o a w K Q else Z:=by
 let⟨i,J,A,C,D⟩:=dW Ajz;refine step_append_lies (P:=prog) w r s x 123 M b 128 i (.agg #[.int .i64 0,.int .i64 0,.int .i64 0,.int .i64 0,.int .i64 0,.int .i64 0,.int .i64 0]) 7 56 underlying123 J A C D rfl (by omega) v l.length (l.flatMap Abd) N m ⟨n,0,none⟩ 1 c (Abd p) O (by rw[Zg]) ?_ (Abc p) (by omega) (by unfold maxLen;omega) (by omega) e H G ?_
 .intro j u L;exact eI (w:=w) (B:=n) (cs:=(Abd p).toArray) (t:=tb) (fr:=(0,0)) k j u (by simpa using L)
 intro g d f z I q y;refine h g d f ?_ I q y;unfold Aej OwG;rw[bA,dH];simpa using z
def K6(E:List EdgeP)(a:List Int):List SgR×Int:=if C7 E≠0 then ([],C7 E) else if a.length≠E.length then ([],1) else if Bp (wdB a) a.length then ([],3) else (Nb E a (Kp (Bj E)) E.length,0)
def Ani(w:World)(r:List SgR×Int)(e:Ending)(a:World):Prop:=∃v,e=.returned (.tuple #[v,r.2])/\Aej a w v r.1/\Be w a
theorem Aio(A:Option Addr)(y n:Nat)(E:List EdgeP)(A2:Option Addr)(g c2:Nat)(a:List Int)(x:n<=y)(hn:n<=9223372036854775807)(k6:g<=9223372036854775807)(Z:EdS w A n E)(hW:InS w A2 g a):Calls prog 66 #[.slice A n y,.slice A2 g c2] w (Ani w (K6 E a)):=by
 have M:=Ar (show K6 E a=if C7 E≠0 then ([],C7 E) else if g≠n then ([],1) else if Bp (wdB a) g then ([],3) else (Nb E a (Kp (Bj E)) n,0) by unfold K6;rw[Z.1,hW.1]);let⟨R,hR⟩:=gN (K6 E a)
 rw[hR]at M ⊢;have db:=Ar Z.1;let⟨eo,D⟩:=gN (C7 E)
 have a8:=Ar D;rw[D]at M;clear hR;go_enter func66,ntmps66;by_cases h0:eo=0
 .subst h0;have o:=D5 D;have ds:=Ar D;clear D;by_cases K:g=n
  .subst K;replace M:=Ar (show R=if Bp (wdB a) g then ([],3) else (Nb E a (Kp (Bj E)) g,0) by rw[M.out,if_neg aL,if_neg aL]);have ix:g<=16:=by rw[<-Z.1];exact o.2.1
   have bt:=Ar (λk (hk:k<g)=>(o.2.2.1 k (by rw[db.out];exact hk)).2);clear o
   go_upto_region 7 with (go_at_call 114;refine rR (Ie A y g E x hn Z) λw1 p=>?_;rw[a8.out])
   have au:=Z.keep p;have b3:=hW.keep p;go_loopw [7] (λi wr=>∃k:Nat,k<=g/\i=k/\Hid (Bp (wdB a) k=false)/\w1=wr) λi _=>g-(intOf i).toNat
   case atStart=>exact⟨0,aB,rfl,Ar (Bp.zero _),rfl⟩
   obtain⟨k,hk,rfl,hz,rfl⟩:=hrel;by_cases t:k<g
   .obtain⟨b,H,rfl,hc⟩:=b3.at_ t;have B1:(k:Int)<(g:Int):=aK
    have B0:(0:Int)<=(k:Int):=aK
    let⟨z,b9⟩:=gN (gi a k)
    have HW:=Ar (show wdB a k=(decide (z<0) || decide (500<z)) by unfold wdB;rw[b9]);rw[b9]at hc;clear b9;by_cases h0:z<0
    .have J:=Ar (show R=([],3) by rw[M.out,if_pos (Bp.yes (f:=wdB a) t (by rw[HW.out];simp;omega))])
     go_wp2
     go_ret2
     rw[J.out];exact⟨_,rfl,OwG.nil,p⟩
    by_cases h5:500<z
    .have J:=Ar (show R=([],3) by rw[M.out,if_pos (Bp.yes (f:=wdB a) t (by rw[HW.out];simp;omega))])
     go_wp2
     go_ret2
     rw[J.out];exact⟨_,rfl,OwG.nil,p⟩
    have dy:=Bp.succ (f:=wdB a) hz.out (by rw[HW.out];simp;omega)
    go_wp2;exact⟨⟨k+1,aK,aP,Ar dy,trivial⟩,aI⟩
   obtain rfl:g=k:=aK
   have J:=Ar (show R=(Nb E a (Kp (Bj E)) g,0) by rw[M.out,if_neg (by rw[hz.out];simp)])
   have e8:=Ar (λk (hk:k<g)=>show 0<=gi a k/\gi a k<=500 from by
    have h:wdB a k=false:=Bool.eq_false_iff.2 λe=>absurd (Bp.yes (f:=wdB a) hk e) (by rw[hz.out];simp)
    unfold wdB at h;simp at h;omega)
   have b7:Kp (Bj E)=1\/Kp (Bj E) = -1:=by unfold Kp;split<;>simp
   let⟨V,hV⟩:=gN (Bj E)
   rw[hV]at J b7;have dx:=Ar (show (if C7 E=0 then (Bj E,0) else ([],C7 E))=(V,(0:Int)) by rw[ds.out,if_pos rfl,hV]);let⟨sg,b8⟩:=gN (Kp V)
   have e0:=Ar b8;rw[b8]at J b7;clear hV b8 hz M
   go_upto_region 12 with (go_at_call 71;refine aF (Adj A y g E x hn au) λw2 v2 X S=>?_;rw[dx.out]at X ⊢)
   obtain⟨Av,cv,rfl,b5,b2,-⟩:=X.sps;let⟨nv,cc⟩:=gN V.length
   rw[cc]at b5 b2 ⊢
   have a6:nv<=9223372036854775807:=by
    obtain⟨A',c',e',-,q',-⟩:=OwG.form2 X;injection e' with e1 e2 e3
    unfold maxLen at q';omega
   clear X cc
   go_upto_region 15 with (go_at_call 72;refine rR (Oc Av cv nv V a6 b5 b2) λY T=>?_;rw[e0.out])
   have eg:=au.keep (An S T);have ew:=b3.keep (An S T);have c3:=An p (An S T);clear b2 Z au hW b3 p S T b5 a6;go_loopw [11,12,13,14,15] (λv i _ _ _ wr=>∃k:Nat,k<=g/\i=k/\Aej wr Y v (Nb E a sg k)/\Be Y wr) λ_ i _ _ _ _=>g-(intOf i).toNat
   case atStart=>exact⟨0,aB,rfl,OwG.nil,bl0⟩
   obtain⟨k,hk,rfl,F,C⟩:=hrel;by_cases t:k<g
   .obtain⟨b1,o1,rfl,c5⟩:=eg.at_ t;obtain⟨-,Al,cl,e6,g1,g2,g3⟩:=c5 k t;have ht:b1<Y.heap.size:=Bi e6;have G:=bt.out k t;obtain⟨bw,ow,rfl,e7⟩:=ew.at_ t;have ck:=e8.out k t;have B:=Ar (show Nb E a sg (k+1)=Nb E a sg k++(List.range ((edg E k).ln.length-1)).map (sgR E a sg k) from rfl);have Q:=Ar λj=>show sgR E a sg k j=sgV sg (gt (edg E k).ln j) (gt (edg E k).ln (j+1)) (gi a k) from rfl;let⟨l,hl⟩:=gN ((edg E k).ln)
    rw[hl]at e6 g1 g3 G B Q;let⟨c,c6⟩:=gN (gi a k)
    rw[c6]at e7 ck Q;let⟨f,hf⟩:=gN (sgR E a sg k)
    rw[hf]at B Q;let⟨I,cb⟩:=gN l.length
    rw[cb]at e6 g1 g3 G B;have iy:=Er G;have bs:=Ar λj (hj:j<I)=>(Lb G (hk:=hj)).1;have dk:=Ar λj (hj:j+1<I)=>Ajd G hj;have hx:bw<Y.heap.size:=Bi e7;let⟨L0,aw⟩:=gN (Nb E a sg k)
    have hh:L0.length<=16*40:=by
     rw[<-aw,K5];have:=Lt (E:=E) (k:=k) (λi hi=>(Er (bt.out i aK)).2);omega
    rw[aw]at F B;have B1:(k:Int)<(g:Int):=aK
    have B0:(0:Int)<=(k:Int):=aK
    let⟨wa,cj⟩:∃wa:World,wa=wr:=⟨_,rfl⟩
    rw[<-cj]at F C ⊢;clear cj hl c6 hf cb aw c5 G;go_upto_region 18 with fail;go_loopw [11,13,14,15] (λv i _ _ wr=>∃j:Nat,j+1<=I/\i=j/\Aej wr Y v (L0++(List.range j).map f)/\Be Y wr) λ_ i _ _ _=>I-(intOf i).toNat
    case atStart=>exact⟨0,aK,rfl,by simpa using F,C⟩
    clear F C;obtain⟨j,hj,rfl,F,C⟩:=hrel;have x6:=Aq C e6;have W1:IntKind.i64.wrap ((j:Int)+1)=(j:Int)+1:=aD
    by_cases b6:j+1<I
    .have C1:(j:Int)+1<(I:Int):=aK
     obtain⟨b0,H,rfl,fa,hc⟩:=g3.at_ (show j<I by omega);let⟨h1,K⟩:=hc j aK;let⟨h3,h4⟩:=hc (j+1) b6;have hv:b0<Y.heap.size:=fa;have i1:=bs.out j aK;have i2:=bs.out (j+1) b6;have i3:=dk.out j b6;have u:=Q.out j;let⟨⟨px,py⟩,hp⟩:∃q,gt l j=q:=⟨_,rfl⟩
     let⟨⟨qx,qy⟩,hq⟩:∃q,gt l (j+1)=q:=⟨_,rfl⟩
     rw[hp]at h1 K i1 i3 u;rw[hq]at h3 h4 i2 i3 u;dsimp only at h1 K h3 h4;replace h1:=Aq C h1;replace K:=Aq C K;replace h3:=Aq C h3;replace h4:=Aq C h4;have x7:=Aq C e7;have bq:=Ar (show L0++(List.range (j+1)).map f=(L0++(List.range j).map f)++[sgV sg (px,py) (qx,qy) c] by rw[fB,List.map_append,<-u,List.append_assoc];rfl);have e4:=Ar λw2:World=>Ain (px,py) (qx,qy) c sg w2 i1 i2 i3 ck b7;have a1:(L0++(List.range j).map f).length<=1000000:=by rw[bA,List.length_map,List.length_range];omega
     let⟨LL,c0⟩:=gN (L0++(List.range j).map f)
     rw[c0]at F bq a1;have C2:(j:Int)<(I:Int):=aK
     have C3:(0:Int)<=(j:Int)+1:=aK
     have C4:(0:Int)<=(j:Int):=aK
     clear hc hp hq u c0 i1 i2 i3;go_upto_region 20 with fail;have d:=Aw (aV wr wr);have KF:=Ar λr (h:Be wr r)=>show Cq r b1 (o1+k*2+1) (.slice (some ⟨b0,H,none⟩) I cl)/\Cq r b0 (H+j*2) px/\Cq r b0 (H+j*2+1) py/\Cq r b0 (H+(j+1)*2) qx/\Cq r b0 (H+(j+1)*2+1) qy from ⟨Aq h x6,Aq h h1,Aq h K,Aq h h3,Aq h h4⟩;go_cut [14,15] λva vb wx=>∃N gb,va=.pointer (some ⟨N,0,none⟩)/\vb=.pointer (some ⟨gb,0,none⟩)/\Bf wx N 65 #[px,py]/\Bf wx gb 65 #[qx,qy]/\wr.heap.size<=N/\wr.heap.size<=gb/\Be wr wx
     case first =>
      clear x6 h1 K h3 h4
      go_region_held3 (sB KF.out)
       (first
        | with_reducible exact KF.out _ d
        | with_reducible exact KF.out _ (Aw blA)
        | with_reducible exact KF.out _ (Aw (Ao blA)))
       (fail)
      all_goals go_wp2
      all_goals go_meet
      all_goals first
       | exact⟨_,_,rfl,rfl,Bf.drew ((Bf.new _ _ _).alloc _),Bf.drew (Bf.new2 _ _ _ _),aA,dU _,Aw (Ao blA)⟩
       | exact⟨_,_,rfl,rfl,Bf.drew (Bf.new2 _ _ _ _),Bf.drew ((Bf.new _ _ _).alloc _),dU _,aA,Aw (Ao blA)⟩
     obtain⟨N,gb,rfl,rfl,O,P,sa,sb,b4⟩:=hcut;let⟨sv,cg⟩:∃sv,sv=u11:=⟨_,rfl⟩
     rw[<-cg]at F ⊢;have cd:Aej wc Y sv LL:=OwG.keep F b4;have U:=An C b4;have f7:=Aq b4 x7;have cm:some N≠sv.ownBlock:=λe=>by have:=(OwG.lt F _ e.symm).2;omega
     have cn:some gb≠sv.ownBlock:=λe=>by have:=(OwG.lt F _ e.symm).2;omega
     have fv:some bw≠sv.ownBlock:=λe=>by have:=(OwG.lt F _ e.symm).1;omega
     have k9:=U.size;have HB:=Ar λr (h:Be wc r)=>show Cq r N 0 px/\Cq r N 1 py/\Cq r gb 0 qx/\Cq r gb 1 qy/\Cq r bw (ow+k) c from ⟨(Fe (O.keep h)).1,(Fe (O.keep h)).2,(Fe (P.keep h)).1,(Fe (P.keep h)).2,Aq h f7⟩
     have HG:=Ar (λ(W r:World) (h:Be wc W) (hg:W.grownBy r sv.ownBlock)=>show Cq r N 0 px/\Cq r N 1 py/\Cq r gb 0 qx/\Cq r gb 1 qy/\Cq r bw (ow+k) c from
      ⟨(Fe ((O.keep h).grown hg cm)).1,(Fe ((O.keep h).grown hg cm)).2,(Fe ((P.keep h).grown hg cn)).1,(Fe ((P.keep h).grown hg cn)).2,(hg.cell_far _ (by have:=h.size;simp;omega) fv).trans (Aq h f7)⟩)
     have cf:=Ar λq hq=>(OwG.lt cd q hq).1;clear cg x6 x7 h1 K h3 h4 KF d C1 C3;go_upto_region 21 with fail;have d:=Aw (aV wc wc)
     go_region_held3 (sB HB.out)
      (first
       | with_reducible exact HB.out _ d
       | with_reducible exact HB.out _ (Ao d)
       | with_reducible exact HG.out _ _ (Ao d) ca)
      ((first
        | (refine ae rfl rfl Y sv LL rfl (OwG.keep cd (Ao d)) w8 1 (sgV sg (px,py) (qx,qy) c) 128 rfl (Bf.new _ _ _) a1 (Ao (An U d)).size (w8+1) aL ?_;intro g9 h9 w9 fc ca hs im)
        | (go_at_call 116;(with_reducible refine(e4.out _).mono ?_);rintro e w8 ⟨rfl,ey⟩;replace d:=An d ey)))
     all_goals clear W1
     all_goals go_wp2
     exact⟨⟨j+1,aK,aP,by rw[bq.out];exact fc,dS (Ao (An U d)) ca (Ao (An U d)).size cf.out⟩,aI⟩
    have k5:j+1=I:=aK
    have C1:¬(j:Int)+1<(I:Int):=aK
    have ek:I-1=j:=aK
    rw[ek]at B;go_wp2;exact⟨⟨k+1,aK,aP,by rw[B.out];exact F,C⟩,aI⟩
   obtain rfl:g=k:=aK
   go_wp2
   go_ret2
   rw[J.out];exact⟨_,rfl,OwG.lower F c3.size,An c3 C⟩
  have J:=Ar (show R=([],1) by rw[M.out,if_neg aL,if_pos K]);have fb:((g:Int) != (n:Int))=true:=by rw[eT];omega
  clear K
  go_wp2_with (go_at_call 114;refine rR (Ie A y n E x hn Z) λw1 p=>?_;rw[a8.out])
  go_ret2
  rw[J.out];exact⟨_,rfl,OwG.nil,p⟩
 have J:=Ar (show R=([],eo) by rw[M.out,if_pos h0]);have fb:(eo != 0)=true:=by simpa using h0
 clear h0 D
 go_wp2_with (go_at_call 114;refine rR (Ie A y n E x hn Z) λw1 p=>?_;rw[a8.out])
 go_ret2
 rw[J.out];exact⟨_,rfl,OwG.nil,p⟩
theorem us3{a d:Value}(h:Bf w b c #[e,a,d]):Cq w b 0 e/\Cq w b 1 a/\Cq w b 2 d:=⟨(h.cell 0).trans rfl,(h.cell 1).trans rfl,(h.cell 2).trans rfl⟩
theorem se6{a g d h f:Value}(H:Bf w b c #[e,a,g,d,h,f]):Cq w b 0 e/\Cq w b 1 a/\Cq w b 2 g/\Cq w b 3 d/\Cq w b 4 h/\Cq w b 5 f:=⟨(H.cell 0).trans rfl,(H.cell 1).trans rfl,(H.cell 2).trans rfl,(H.cell 3).trans rfl,(H.cell 4).trans rfl,(H.cell 5).trans rfl⟩
theorem Aor(j:Array Value)(s:StyleP)(w:World)(f:SmS s)(i:StV w j s)(h:C6 s≠0):Calls prog 27 #[.agg j] w (Bz w (C6 s)):=by
 let⟨c,d⟩:=gN (C6 s)
 rw[d]at h ⊢;have k:=Ar d;have m:(c != 0)=true:=by simpa using h
 clear d h;have g:=i;obtain⟨x,D,y,E,z,F,A,G,B,H,C,I,rfl,⟨Q,R,S⟩,⟨T,U,V⟩,⟨W,Y,Z⟩,⟨n,o,p⟩,⟨q,r,t⟩,u,v⟩:=i;go_enter func27,ntmps27;go_upto_region 1 with fail;refine Bq λX a l=>?_
 let⟨J,K,L,M,N,O,P⟩:=st7 l
 go_wp2_with (go_at_call 50;refine rR (Te s f (g.keep a)) λw1 b=>?_;rw[k.out])
 go_ret;exact⟨rfl,An a b⟩
theorem Aoq(vs:Array Value)(s:StyleP)(w:World)(o:SmS s)(hv:StV w vs s)(h:C6 s=0):Calls prog 27 #[.agg vs] w (Bz w (Bv s)):=by
 have HE:=Ar (show Bv s=if Fh (Ee s.pc) s.pc.length≠0 then Fh (Ee s.pc) s.pc.length
  else if Bp (Ni s) s.us.length then 3 else Fh (Ly s) s.se.length by unfold Bv;rw[if_neg (by simpa using h)])
 have HC:=Ar h;clear h;have cj:=hv;obtain⟨A1,c1,A2,c2,A3,c3,A4,c4,A5,c5,A6,c6,rfl,⟨v1,v2,v3⟩,⟨v4,v5,v6⟩,⟨v7,v8,v9⟩,⟨gy,mx,e6⟩,⟨h5,my,e7⟩,h6,mz⟩:=hv;go_enter func27,ntmps27;go_upto_region 1 with fail;refine Bq λX b3 hP=>?_
 let⟨V,W,Z,p3,p4,p5,p6⟩:=st7 hP;obtain⟨z1,z2,z3,z4,z5,z6⟩:=o;have o:SmS s:=⟨z1,z2,z3,z4,z5,z6⟩;have bb:=cj.keep b3
 go_upto_region 4 with (go_at_call 50;refine rR (Te s o bb) λw1 r=>?_;rw[HC.out])
 have H:=An b3 r;have F:=hP.keep r;have ba:=bb.keep r;clear V W Z p3 p4 p5 p6 hP bb cj b3 r;have bp:=v9.keep H;have K:=e6.keep H;have M:=e7.keep H;let⟨n1,b4⟩:=gN s.sz.length
 let⟨n2,b5⟩:=gN s.mu.length
 let⟨U,T⟩:=gN s.pc.length
 let⟨n4,b6⟩:=gN s.us.length
 let⟨n5,b7⟩:=gN s.se.length
 let⟨n6,b8⟩:=gN s.no
 rw[b4,b5,T,b6,b7,b8]at F ba;have HV:=Ar ba;clear ba;rw[T]at v7 z3 HE bp;rw[b6]at gy z4 HE K;rw[b7]at h5 z5 HE M;rw[b4]at v1 z1;rw[b5]at v4 z2;rw[b8]at h6 z6;have fa:=Ar T;clear b4 b5 T b6 b7 b8 v3 v6 v9 e6 e7;let⟨V,W,Z,p3,p4,p5,p6⟩:=st7 F;go_upto_region 5 with fail;clear V W Z p3 p4 p5 p6;go_loopw [4,5,6,19] (λ_ _ _ c wr=>∃k:Nat,k<=U/\c=k/\Hid (Fh (Ee s.pc) k=0)/\Be w1 wr) λ_ _ _ c _=>U-(intOf c).toNat
 case atStart=>exact⟨0,aB,rfl,Ar rfl,bl0⟩
 obtain⟨k,hk,rfl,hz,l⟩:=hrel;by_cases t:k<U
 .have aw:=bp.keep l;obtain⟨b0,cy,rfl,nd,ad,hc⟩:=aw.at_ t;have bc:=ad;obtain⟨E1,d1,E2,d2,E3,d3,E4,d4,rfl,-⟩:=ad;let⟨k0,k1,k2,k3,k4,k5,k6⟩:=c7 hc;clear hc;have P:=Ar (Adn s.pc k);have D:=Ar λ(h2:Ee s.pc k≠0)=>Mk (f:=Ee s.pc) t hz.out h2;have O:=Ar (Ga (f:=Ee s.pc) hz.out);let⟨v,cg⟩:=gN (pce s.pc k)
  rw[cg]at k0 k1 k2 k3 k4 k5 k6 bc P;clear cg;have cd:=aw.take (i:=k) aK;have B1:(k:Int)<(U:Int):=aK
  let⟨q0,q1,q2,q3,q4,q5,q6⟩:=st7 (F.keep l);go_upto_region 7 with fail;refine Bq λY m N=>?_
  let⟨g0,g1,g2,g3,g4,g5,g6⟩:=st7 N;have r3:=Aq m q3;have cc:=cd.keep m;have ck:=bc.keep m;have S1:(0:Int)<=(k:Int):=aK
  have S2:(k:Int)<=(c3:Int):=aK
  clear k0 k1 k2 k3 k4 k5 k6 q0 q1 q2 q3 q4 q5 q6 cd bc aw;have d:=Aw (aV Y Y);let⟨pe,cf⟩:=gN (Ee s.pc k)
  rw[cf]at P D O;clear cf;by_cases h0:pe=0
  .subst h0
   go_region_held3 (λu=>Cq u w 3 (.slice (some ⟨b0,cy,none⟩) U c3)/\Cq u wr 0 (.string v.nm)/\Cq u wr 1 (.slice E1 v.ed.length d1)/\Cq u wr 2 v.gr/\Cq u wr 3 (.slice E2 v.nt.length d2)/\Cq u wr 4 (.slice E3 v.cr.length d3)/\Cq u wr 5 (.slice E4 v.wd.length d4)/\Cq u wr 6 (.bool v.mt))
    (with_reducible exact⟨Aq d r3,st7 (N.keep d)⟩)
    ((go_at_call 51;refine rR (U8 k (s.pc.take k) v (cc.keep d) (ck.keep d)) λw2 a=>?_;rw[<-P.out];replace d:=An d a))
   have ey:=Ar (O.out);go_wp2_with fail;exact aE ⟨ey,An (An l m) d⟩
  have mr:(pe != 0)=true:=by simpa using h0
  have p:=Ar (D.out h0)
  go_region_held3 (λu=>Cq u w 3 (.slice (some ⟨b0,cy,none⟩) U c3)/\Cq u wr 0 (.string v.nm)/\Cq u wr 1 (.slice E1 v.ed.length d1)/\Cq u wr 2 v.gr/\Cq u wr 3 (.slice E2 v.nt.length d2)/\Cq u wr 4 (.slice E3 v.cr.length d3)/\Cq u wr 5 (.slice E4 v.wd.length d4)/\Cq u wr 6 (.bool v.mt))
   (with_reducible exact⟨Aq d r3,st7 (N.keep d)⟩)
   ((go_at_call 51;refine rR (U8 k (s.pc.take k) v (cc.keep d) (ck.keep d)) λw2 a=>?_;rw[<-P.out];replace d:=An d a))
  have fc:=Ar (show Bv s=pe by rw[HE.out,if_pos (by rw[p.out];exact h0),p.out])
  go_wp2;go_ret;exact⟨by rw[fc.out];rfl,An H (An (An l m) d)⟩
 obtain rfl:U=k:=aK
 have c0:=Ar (show Bv s=if Bp (Ni s) n4 then 3 else Fh (Ly s) n5 by rw[HE.out,if_neg (by rw[hz.out];simp)]);have E:=An H l;have G:=F.keep l;have ak:=Ar (HV.out.keep l);have J:=K.keep l;have L:=M.keep l;let⟨V,W,Z,p3,p4,p5,p6⟩:=st7 G;let⟨wo,cm⟩:=gN (wr:World)
 rw[cm]at E G ak J L V W Z p3 p4 p5 p6 ⊢;clear cm l F HV bp K M;go_upto_region 12 with fail;clear V W Z p3 p4 p5 p6;go_loopw [8,37] (λ_ c wr=>∃k:Nat,k<=n4/\c=k/\Hid (Bp (Ni s) k=false)/\Be wo wr) λ_ c _=>n4-(intOf c).toNat
 case atStart=>exact⟨0,aB,rfl,Ar (Bp.zero _),bl0⟩
 obtain⟨k,hk,rfl,cw,l⟩:=hrel;by_cases t:k<n4
 .obtain⟨b9,cz,rfl,e0,e1,e2⟩:=(J.keep l).at_ t;have B1:(k:Int)<(n4:Int):=aK
  have A:=Ar (show Ni s k=(decide ((use s.us k).pc<0) || decide ((U:Int)<=(use s.us k).pc) || decide ((use s.us k).ct<1) || decide (4<(use s.us k).ct)) by unfold Ni;rw[fa.out]);let⟨x,hx⟩:=gN ((use s.us k).pc)
  let⟨y,hy⟩:=gN ((use s.us k).ct)
  let⟨z,hz⟩:=gN ((use s.us k).pr)
  rw[hx]at e0 A;rw[hy]at e1 A;rw[hz]at e2;clear hx hy hz;let⟨q0,q1,q2,q3,q4,q5,q6⟩:=st7 (G.keep l);go_upto_region 14 with fail;refine Bq λY m N=>?_
  let⟨g0,g1,g2⟩:=us3 N;have r3:=Aq m q3;have g:=An l m;clear q0 q1 q2 q3 q4 q5 q6 e0 e1 e2;have Q:=Ar (λ(h:Ni s k=true)=>show Bv s=3 by rw[c0.out,if_pos (Bp.yes (f:=Ni s) t h)]);by_cases h1:x<0
  .have p:=Ar (Q.out (by rw[A.out];simp[h1]))
   go_wp2;all_goals go_ret
   all_goals exact⟨by rw[p.out];rfl,An E g⟩
  obtain⟨j,rfl⟩:∃j:Nat,x=j:=⟨x.toNat,aK⟩
  by_cases h2:(U:Int)<=(j:Int)
  .have p:=Ar (Q.out (by rw[A.out];simp[h2]))
   go_wp2;all_goals go_ret
   all_goals exact⟨by rw[p.out];rfl,An E g⟩
  by_cases h3:y<1
  .have p:=Ar (Q.out (by rw[A.out];simp[h3]))
   go_wp2;all_goals go_ret
   all_goals exact⟨by rw[p.out];rfl,An E g⟩
  by_cases h4:4<y
  .have p:=Ar (Q.out (by rw[A.out];simp[h4]))
   go_wp2;all_goals go_ret
   all_goals exact⟨by rw[p.out];rfl,An E g⟩
  have HP:=Bp.succ (f:=Ni s) cw.out (by rw[A.out];simp;omega)
  go_wp2_with fail;all_goals exact aE ⟨Ar HP,g⟩
 obtain rfl:n4=k:=aK
 have c9:=Ar (show Bv s=Fh (Ly s) n5 by rw[c0.out,if_neg (by rw[cw.out];simp)]);have I:=An E l;have R:=G.keep l;have ca:=Ar (ak.out.keep l);have ai:=L.keep l;let⟨V,W,Z,p3,p4,p5,p6⟩:=st7 R;let⟨wp,cn⟩:=gN (wr:World)
 rw[cn]at I R ca ai V W Z p3 p4 p5 p6 ⊢;clear cn l G ak J L;go_upto_region 18 with fail;clear V W Z p3 p4 p5 p6;go_loopw [10,66] (λ_ c wr=>∃k:Nat,k<=n5/\c=k/\Hid (Fh (Ly s) k=0)/\Be wp wr) λ_ c _=>n5-(intOf c).toNat
 case atStart=>exact⟨0,aB,rfl,Ar rfl,bl0⟩
 obtain⟨k,hk,rfl,bd,l⟩:=hrel;by_cases t:k<n5
 .obtain⟨b9,cz,rfl,e0,e1,e2,e3,e4,e5⟩:=(ai.keep l).at_ t;have B1:(k:Int)<(n5:Int):=aK
  have A:=Ar (show Ly s k=if Td s.pc (sem s.se k).pa (sem s.se k).ea=false\/Td s.pc (sem s.se k).pb (sem s.se k).eb=false then 3 else if (sem s.se k).es<0 then 1 else 0 from rfl);have D:=Ar (λ(h2:Ly s k≠0)=>show Bv s=Ly s k by rw[c9.out];exact Mk (f:=Ly s) t bd.out h2);have O:=Ar (Ga (f:=Ly s) bd.out);let⟨⟨xa,xe,xb,xf,xr,xs⟩,hx⟩:∃x,sem s.se k=x:=⟨_,rfl⟩
  rw[hx]at e0 e1 e2 e3 e4 e5 A;dsimp only at e0 e1 e2 e3 e4 e5 A;clear hx;let⟨q0,q1,q2,q3,q4,q5,q6⟩:=st7 (R.keep l);go_upto_region 20 with fail;refine Bq λY m N=>?_
  let⟨g0,g1,g2,g3,g4,g5⟩:=se6 N;have g:=An l m;have S:=R.keep g;have B:=ca.out.keep g;let⟨r0,r1,r2,r3,r4,r5,r6⟩:=st7 S;clear q0 q1 q2 q3 q4 q5 q6 e0 e1 e2 e3 e4 e5;let⟨b1,r⟩:=gN (Td s.pc xa xe)
  let⟨b2,a⟩:=gN (Td s.pc xb xf)
  rw[r,a]at A;have H1:=Ar r;have H2:=Ar a;clear r a;cases b1 with
  | false =>
    have p:=Ar (show Bv s=3 by
     have e:Ly s k=3:=by rw[A.out];simp
     rw[D.out (by rw[e];decide),e])
    go_wp2_with (go_at_call 52;refine rR (Fx _ s xa xe _ o B) λw2 a=>?_;rw[H1.out])
    all_goals go_ret
    all_goals exact⟨by rw[p.out];rfl,An I (An g a)⟩
  | true =>
    cases b2 with
    | false =>
      have p:=Ar (show Bv s=3 by
       have e:Ly s k=3:=by rw[A.out];simp
       rw[D.out (by rw[e];decide),e])
      go_wp2_with (first
       | (go_at_call 52;have cx:=a;refine rR (Fx _ s xb xf _ o (B.keep a)) λw3 C=>?_;rw[H2.out])
       | (go_at_call 52;refine(Fx _ s xa xe _ o B).mono ?_;rintro e w2 ⟨rfl,a⟩;rw[H1.out];let⟨t0,t1,t2,t3,t4,t5,t6⟩:=st7 (S.keep a);let⟨y0,y1,y2,y3,y4,y5⟩:=se6 (N.keep a)))
      all_goals go_ret
      all_goals exact⟨by rw[p.out];rfl,An I (An g (An a C))⟩
    | true =>
      by_cases h0:xs<0
      .have p:=Ar (show Bv s=1 by
        have e:Ly s k=1:=by rw[A.out];simp[h0]
        rw[D.out (by rw[e];decide),e])
       go_wp2_with (first
        | (go_at_call 52;have cx:=a;refine rR (Fx _ s xb xf _ o (B.keep a)) λw3 C=>?_;rw[H2.out];have h7:=Aq C y5)
        | (go_at_call 52;refine(Fx _ s xa xe _ o B).mono ?_;rintro e w2 ⟨rfl,a⟩;rw[H1.out];let⟨t0,t1,t2,t3,t4,t5,t6⟩:=st7 (S.keep a);let⟨y0,y1,y2,y3,y4,y5⟩:=se6 (N.keep a)))
       all_goals go_ret
       all_goals exact⟨by rw[p.out];rfl,An I (An g (An a C))⟩
      have HP:=Ar (show Fh (Ly s) (k+1)=0 by rw[O.out,A.out];simp[h0])
      go_wp2_with (first
       | (go_at_call 52;have cx:=a;refine rR (Fx _ s xb xf _ o (B.keep a)) λw3 C=>?_;rw[H2.out];have h7:=Aq C y5)
       | (go_at_call 52;refine(Fx _ s xa xe _ o B).mono ?_;rintro e w2 ⟨rfl,a⟩;rw[H1.out];let⟨t0,t1,t2,t3,t4,t5,t6⟩:=st7 (S.keep a);let⟨y0,y1,y2,y3,y4,y5⟩:=se6 (N.keep a)))
      all_goals exact aE ⟨HP,An g (An a C)⟩
 obtain rfl:n5=k:=aK
 have p:=Ar (show Bv s=0 by rw[c9.out,bd.out])
 go_wp2;go_ret;exact⟨by rw[p.out];rfl,An I l⟩
theorem Fs(b:Array Value)(s:StyleP)(w:World)(a:SmS s)(c:StV w b s):Calls prog 27 #[.agg b] w (Bz w (Bv s)):=by
 by_cases h:C6 s=0
 .exact Aoq b s w a c h
 rw[show Bv s=C6 s by unfold Bv;rw[if_pos h]];exact Aor b s w a c h
end Go.Proofs.YtboghahlhmnblaaGreat
