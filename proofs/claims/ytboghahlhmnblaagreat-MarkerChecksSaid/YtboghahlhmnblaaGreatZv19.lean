/- Lean texts of the claim. -/
import Derived.Test.YtboghahlhmnblaaGreatZv15
import Derived.Test.YtboghahlhmnblaaGreatZv16
import Derived.Sort.MapsRangeIn
import Derived.StringKeys
namespace Go.Proofs.YtboghahlhmnblaaGreat
set_option linter.all false
set_option maxRecDepth 100000
set_option maxHeartbeats 0
open Go.RowKit Go.Proofs.Tryz
variable{a:World}{b:Nat}{c:Array Value}{e:Value}{f:Rat}{g:TypeId}{z:Int}{k n:Nat}{A:Option Addr}{x:Rat}{w:World}
section
open Go.RowKit Go.Maps
def okT(s:ByteArray):Prop:=s.size<=maxLen
def klT(s:ByteArray):Lit:=.string s.data.toList
theorem Anr:KeyRep prog 9 Value.string okT klT where
 law:=string_keyed underlying9
 of x hx:=WideMaps.keyOf_string_mk underlying9 hx
 inj x y h:=by injection h
theorem Ahv:∀w,(zeroValue 4).run prog w=.ok (.bool false) w:=λ_=>by kernel_rfl
theorem Ae6{w d:World}(c:Be a w)(e:w.grownBy d (some b))(h:a.heap.size<=b):Be a d:=dS c e c.size λk f=>by cases f;exact h
theorem Xv{a b:ByteArray}:Gq a b=true↔a=b:=by
 unfold Gq;rw[beq_iff_eq];exact⟨λh=>by rw[ByteArray.toList_eq,ByteArray.toList_eq]at h;exact WideShapes.bytes_inj h,λh=>by rw[h]⟩
theorem jo{l:List ByteArray}{x:ByteArray}(b:k<=l.length):Bp (λj=>Gq (gb l j) x) k=true↔x∈l.take k:=by
 rw[Bp.iff,List.mem_take_iff_getElem];constructor
 .rintro⟨i,a,h⟩;have:=Xv.1 h;refine⟨i,aK,?_⟩;rw[<-this];simp[gb,List.getD,show i<l.length by omega]
 rintro⟨i,a,h⟩;refine⟨i,aK,?_⟩;rw[Xv,<-h];simp[gb,List.getD,show i<l.length by omega]
theorem Dd.getB{P:Program}{j:Type}{e t:TypeId}{i:j->Value}{ok:j->Prop}{p:j->Lit}{S:List j}(K:KeyRep P g i ok p)(u:P.underlying t=some (.map g e))(o:P.underlying e=some .bool)(y:(zeroValue e).run P w=.ok (.bool false) w)(h:Dd P g e ok p w b n S){x:j}(k:ok x){c:Bool}(m:c=true↔x∈S):
 (Instr.lookup t (.map (some b)) (i x) false).run P w=.ok (.bool c) w:=by
 obtain⟨D,r,A,l⟩:=h;let⟨v,B,f,s⟩:=r.lookup K.law u y (plainElem_bool o false) (K.of x k);obtain⟨z,rfl,a⟩:=Fa o s;injection a with a _
 by_cases d:x∈S
 .rw[(l x k).1 d]at a;injection a with a;injection a with a
  rw[f,<-a,m.2 d]
 rw[Maps.atKey_of_not_has ((l x k).2 d)]at a;injection a with a;injection a with a
 have q:c=false:=by
  cases c with
  | false=>rfl
  | true=>exact absurd (m.1 rfl) d
 rw[f,<-a,q]
structure SmS (s:StyleP):Prop where
 sz:s.sz.length<=4
 mu:s.mu.length<=4
 pc:s.pc.length<=4
 us:s.us.length<=4
 se:s.se.length<=6
 no:s.no<=8
theorem st7{a c d i f h:Value}(H:Bf w b g #[e,a,c,d,i,f,h]):Cq w b 0 e/\Cq w b 1 a/\Cq w b 2 c/\Cq w b 3 d/\Cq w b 4 i/\Cq w b 5 f/\Cq w b 6 h:=⟨(H.cell 0).trans rfl,(H.cell 1).trans rfl,(H.cell 2).trans rfl,(H.cell 3).trans rfl,(H.cell 4).trans rfl,(H.cell 5).trans rfl,(H.cell 6).trans rfl⟩
theorem Aqc(c:Array Value)(s:StyleP)(w:World)(g:StV w c s)(h:Cy s.nm=false):Calls prog 50 #[.agg c] w (Bz w (.int .i64 1)):=by
 have d:=Ar h;clear h;obtain⟨q,y,r,z,t,A,u,B,v,C,x,D,rfl,⟨L,M,N⟩,⟨O,P,Q⟩,⟨R,S,T⟩,⟨i,j,k⟩,⟨l,m,n⟩,o,p⟩:=g;go_enter func50,ntmps50;go_upto_region 1 with fail;refine Bq λX b f=>?_
 let⟨E,F,G,H,I,J,K⟩:=st7 f
 go_wp2_with (go_at_call 85;refine rR (Hp s.nm _) λU a=>?_;rw[d.out])
 go_ret;exact⟨rfl,An b a⟩
theorem Aqb(f:Array Value)(s:StyleP)(w:World)(k:StV w f s)(h:Cy s.nm=true)(c:s.sz.length=0):Calls prog 50 #[.agg f] w (Bz w (.int .i64 1)):=by
 have i:=Ar h;have g:=Ar c;clear h c;obtain⟨u,B,v,C,x,D,y,E,z,F,A,G,rfl,⟨O,P,Q⟩,⟨R,S,T⟩,⟨U,V,W⟩,⟨l,m,n⟩,⟨o,p,q⟩,r,t⟩:=k;go_enter func50,ntmps50;go_upto_region 1 with fail;refine Bq λX b j=>?_
 let⟨H,d,I,J,K,L,M⟩:=st7 j;rw[g.out]at d
 go_wp2_with (go_at_call 85;refine rR (Hp s.nm _) λY a=>?_;rw[i.out];have N:=Aq a d)
 go_ret;exact⟨rfl,An b a⟩
theorem Aqa(vs:Array Value)(s:StyleP)(w:World)(bc:SmS s)(hv:StV w vs s)(h:Cy s.nm=true)(h0:s.sz.length≠0):Calls prog 50 #[.agg vs] w (Bz w (C6 s)):=by
 have W:=Ar (show C6 s=if Bp (λi=>!szB (gb s.sz i)) s.sz.length then 1
  else if s.mu.length≠s.sz.length\/Bp (λi=>(0:Int) == gi s.mu i) s.mu.length=false then 1
  else if Bp (λi=>Bp (λj=>Gq (gb s.sz j) (gb s.sz i)) i) s.sz.length then 7
  else if Bp (λi=>decide (gi s.mu i < -100) || decide (100<gi s.mu i)) s.mu.length then 3 else 0 by
  obtain⟨z1,z2,z3,z4,z5,z6⟩:=bc;unfold C6;rw[if_neg (by rw[h];simpa using h0),if_neg (show ¬(12<s.sz.length\/12<s.pc.length\/12<s.us.length) by omega),if_neg (show ¬(24<s.se.length\/16<s.no) by omega)])
 have HN:=Ar h;obtain⟨z1,z2,z3,z4,z5,z6⟩:=bc;have fb:=@run_makeMap prog;clear h;obtain⟨A1,c1,A2,c2,A3,c3,A4,c4,A5,c5,A6,c6,rfl,⟨v1,v2,v3⟩,⟨v4,v5,v6⟩,⟨v7,v8,v9⟩,⟨ds,fv,dx⟩,⟨dy,gf,e0⟩,e1,gw⟩:=hv;go_enter func50,ntmps50;go_upto_region 1 with fail;refine Bq λX F C=>?_
 let⟨p0,p1,p2,p3,p4,p5,p6⟩:=st7 C;let⟨z,b3⟩:=gN s.sz.length
 let⟨g,b4⟩:=gN s.mu.length
 let⟨n3,b5⟩:=gN s.pc.length
 let⟨n4,b6⟩:=gN s.us.length
 let⟨n5,b7⟩:=gN s.se.length
 let⟨n6,b8⟩:=gN s.no
 rw[b3]at h0 W p1 v1 v3 z1 C;rw[b4]at W p2 v4 v6 z2 C;rw[b5]at p3 v7 z3 C;rw[b6]at p4 ds z4 C;rw[b7]at p5 dy z5 C;rw[b8]at p6 e1 z6 C;clear b3 b4 b5 b6 b7 b8 v9 dx e0;have da:((z:Int) == 0)=false:=by simpa using h0
 go_upto_region 4 with (go_at_call 85;refine rR (Hp s.nm _) λw1 u=>?_;rw[HN.out];have R:=Aq u p1)
 have au:=C.keep u;have L:=v3.keep (An F u);have ad:=v6.keep (An F u);clear p0 p1 p2 p3 p4 p5 p6 R C da;go_loopw [4,23] (λ_ c wr=>∃k:Nat,k<=z/\c=k/\Hid (Bp (λi=>!szB (gb s.sz i)) k=false)/\Be w1 wr) λ_ c _=>z-(intOf c).toNat
 case atStart=>exact⟨0,aB,rfl,Ar (Bp.zero _),bl0⟩
 obtain⟨k,hk,rfl,Q,q⟩:=hrel;by_cases m:k<z
 .obtain⟨b0,db,rfl,hc,v⟩:=(L.keep q).at_ m;have B1:(k:Int)<(z:Int):=aK
  let⟨x,p⟩:=gN (gb s.sz k)
  rw[p]at hc v;cases d:szB x with
  | false =>
    have r:=Ar (show C6 s=1 by rw[W.out,if_pos (Bp.yes (f:=λi=>!szB (gb s.sz i)) m (by rw[p,d];rfl))]);have HB:=Ar d;clear p d
    go_wp2_with (go_at_call 86;refine rR (Tn x v) λA a=>?_;rw[HB.out])
    go_ret;exact⟨by rw[r.out];rfl,An F (An u (An q a))⟩
  | true =>
    have Z:=Bp.succ (f:=λi=>!szB (gb s.sz i)) Q.out (by rw[p,d];rfl);have HB:=Ar d;clear p d
    go_wp2_with (go_at_call 86;refine rR (Tn x v) λA a=>?_;rw[HB.out])
    exact aE ⟨Ar Z,An q a⟩
 obtain rfl:z=k:=aK
 have y:=Ar (show C6 s=if g≠z\/Bp (λi=>(0:Int) == gi s.mu i) g=false then 1
  else if Bp (λi=>Bp (λj=>Gq (gb s.sz j) (gb s.sz i)) i) z then 7
  else if Bp (λi=>decide (gi s.mu i < -100) || decide (100<gi s.mu i)) g then 3 else 0 by rw[W.out,if_neg (by rw[Q.out];simp)])
 have N:=An F (An u q);have D:=au.keep q;have aw:=L.keep q;have B:=ad.keep q;clear au L ad q v3 v6;let⟨p0,p1,p2,p3,p4,p5,p6⟩:=st7 D;by_cases P:g=z
 .obtain rfl:=P;let⟨cb,O⟩:=gN (Bp (λi=>(0:Int) == gi s.mu i) g)
  have V:=Ar O;rw[O]at y;clear O;cases cb with
  | false =>
    have r:=Ar (show C6 s=1 by rw[y.out];simp)
    go_wp2_with (go_at_call 87;refine rR (Ll B) λA a=>?_;rw[V.out])
    go_ret;exact⟨by rw[r.out];rfl,An N a⟩
  | true =>
    have H:=Ar (show C6 s=if Bp (λi=>Bp (λj=>Gq (gb s.sz j) (gb s.sz i)) i) g then 7
     else if Bp (λi=>decide (gi s.mu i < -100) || decide (100<gi s.mu i)) g then 3 else 0 by rw[y.out];simp)
    go_upto_region 12 with (go_at_call 87;refine rR (Ll B) λA a=>?_;rw[V.out];let⟨q0,R,q2,q3,q4,q5,q6⟩:=st7 (D.keep a))
    have b1:=An N a;have K:=D.keep a;have M:=aw.keep a;have ai:=B.keep a;clear p0 p1 p2 p3 p4 p5 p6 D aw B a;let⟨S,J⟩:∃S,S=A.heap.size:=⟨_,rfl⟩
    have b2:Dd prog 9 4 okT klT (A.alloc (.map #[] 0)) S 0 []:=by rw[J];exact Dd.made A
    have a8:A.heap.size<=S:=aK
    have G:=Ar (Ao (aV A A) (o:=.map #[] 0));have U:=Ar J;have Y:=Ar b2;have a1:=Ar (st7 (K.keep G.out));clear b2 J;rw[<-U.out];clear U;let⟨q0,R,q2,q3,q4,q5,q6⟩:=a1.out;go_upto_region 13 with fail;clear q0 R q2 q3 q4 q5 q6 a1;go_loopw [7,48] (λ_ c wr=>∃k:Nat,k<=g/\c=k/\Hid (Bp (λi=>Bp (λj=>Gq (gb s.sz j) (gb s.sz i)) i) k=false)/\Dd prog 9 4 okT klT wr S k (s.sz.take k)/\Be A wr) λ_ c _=>g-(intOf c).toNat
    case atStart=>exact⟨0,aB,rfl,Ar (Bp.zero _),Y.out,G.out⟩
    clear Y G;obtain⟨k,hk,rfl,Q,hm,q⟩:=hrel;by_cases m:k<g
    .obtain⟨b0,db,rfl,hc,v⟩:=(M.keep q).at_ m;have B1:(k:Int)<(g:Int):=aK
     have cw:s.sz.length=g:=M.1;have a7:=Ar (show s.sz.take (k+1)=s.sz.take k++[gb s.sz k] by rw[cG aK];simp[gb,List.getD,show k<s.sz.length by omega]);have a6:=Ar (jo (l:=s.sz) (x:=gb s.sz k) (k:=k) aK);let⟨x,p⟩:=gN (gb s.sz k)
     rw[p]at hc v a7 a6;have HX:=Ar p;clear p cw;have ba:okT x:=v;have hg:=Dd.getB (t:=142) Anr underlying142 underlying4 (Ahv _) hm ba a6.out;let⟨bb,d⟩:=gN (Bp (λj=>Gq (gb s.sz j) x) k)
     rw[d]at hg;have T:=Ar d;clear d;cases bb with
     | true =>
       have r:=Ar (show C6 s=7 by rw[H.out,if_pos (Bp.yes (f:=λi=>Bp (λj=>Gq (gb s.sz j) (gb s.sz i)) i) m (by rw[HX.out];exact T.out))])
       go_wp2;go_ret;exact⟨by rw[r.out];rfl,An b1 q⟩
     | false =>
       have Z:=Bp.succ (f:=λi=>Bp (λj=>Gq (gb s.sz j) (gb s.sz i)) i) Q.out (by rw[HX.out];exact T.out);have cu:k<maxLen:=aS
       go_wp2_with (at_mapUpdate;refine D8 142 Anr underlying142 underlying4 hm (hn:=cu) x ba ?_;intro w5 cy cn)
       exact aE ⟨Ar Z,by rw[a7.out];exact cy,Ae6 q cn a8⟩
    obtain rfl:g=k:=aK
    have I:=Ar (show C6 s=if Bp (λi=>decide (gi s.mu i < -100) || decide (100<gi s.mu i)) g then 3 else 0 by rw[H.out,if_neg (by rw[Q.out];simp)]);have E:=An b1 q;let⟨q0,R,q2,q3,q4,q5,q6⟩:=st7 (K.keep q);have ak:=ai.keep q;clear hm Q ai M K W y H;go_upto_region 24 with fail;clear q0 R q2 q3 q4 q5 q6;let⟨wx,bd⟩:=gN (wr:World)
    rw[bd]at E ak ⊢;clear bd q;go_loopw [9,87] (λ_ c wy=>∃k:Nat,k<=g/\c=k/\Hid (Bp (λi=>decide (gi s.mu i < -100) || decide (100<gi s.mu i)) k=false)/\Hid (wx=wy)) λ_ c _=>g-(intOf c).toNat
    case atStart=>exact⟨0,aB,rfl,Ar (Bp.zero _),Ar rfl⟩
    obtain⟨k,hk,rfl,bl,cz⟩:=hrel;obtain rfl:=cz.out;by_cases m:k<g
    .obtain⟨b9,e8,rfl,cm⟩:=ak.at_ m;have B1:(k:Int)<(g:Int):=aK
     let⟨x,p⟩:=gN (gi s.mu k)
     rw[p]at cm;by_cases h0:x < -100
     .have r:=Ar (show C6 s=3 by rw[I.out,if_pos (Bp.yes (f:=λi=>decide (gi s.mu i < -100) || decide (100<gi s.mu i)) m (by rw[p];simp;omega))]);clear p;go_wp2;all_goals go_ret
      all_goals exact⟨by rw[r.out];rfl,E⟩
     by_cases h5:100<x
     .have r:=Ar (show C6 s=3 by rw[I.out,if_pos (Bp.yes (f:=λi=>decide (gi s.mu i < -100) || decide (100<gi s.mu i)) m (by rw[p];simp;omega))]);clear p;go_wp2;all_goals go_ret
      all_goals exact⟨by rw[r.out];rfl,E⟩
     have Z:=Bp.succ (f:=λi=>decide (gi s.mu i < -100) || decide (100<gi s.mu i)) bl.out (by rw[p];simp;omega);clear p;go_wp2_with fail;all_goals exact aE ⟨Ar Z,by first|exact Ar rfl|exact Ar trivial⟩
    obtain rfl:g=k:=aK
    have r:=Ar (show C6 s=0 by rw[I.out,if_neg (by rw[bl.out];simp)])
    go_wp2;go_ret;exact⟨by rw[r.out];rfl,E⟩
 have hn:((g:Int) != (z:Int))=true:=by rw[eT];omega
 have r:=Ar (show C6 s=1 by rw[y.out,if_pos (Or.inl P)]);clear P;go_wp2;all_goals go_ret
 all_goals exact⟨by rw[r.out];rfl,N⟩
theorem Te(s:StyleP)(b:SmS s)(d:StV w c s):Calls prog 50 #[.agg c] w (Bz w (C6 s)):=by
 cases hn:Cy s.nm with
 | false =>
   rw[show C6 s=1 by unfold C6;rw[if_pos (Or.inl hn)]];exact Aqc c s w d hn
 | true =>
   by_cases a:s.sz.length=0
   .rw[show C6 s=1 by unfold C6;rw[if_pos (Or.inr a)]];exact Aqb c s w d hn a
   exact Aqa c s w b d hn a
end
theorem jq(a b:ByteArray):Gq a b=Gq b a:=by unfold Gq;rw[Bool.beq_comm]
def twB(l:List ByteArray)(i:Nat):Bool:=Bp (λj=>Gq (gb l j) (gb l i)) i
theorem Ac0(n:Nat)(l:List ByteArray)(o:StS w A n l)(M:n<=1000000:=by omega):Calls prog 109 #[.slice A n b] w (Bz w (.bool (Bp (twB l) n))):=by
 go_in;go_upto_region 2 with fail;go_loopw [3,4] (λi _ wr=>∃k:Nat,k<=n/\i=k/\Hid (Bp (twB l) k=false)/\Be w wr) λi _ _=>n-(intOf i).toNat
 case atStart=>exact⟨0,aB,rfl,Bp.zero _,bl0⟩
 obtain⟨k,L,rfl,m,a⟩:=hrel;by_cases d:k<n
 .have E:(k:Int)<(n:Int):=aK
  have D:(0:Int)<=(k:Int):=aK
  go_upto_region 5 with fail;go_loopw [4] (λj wr=>∃i:Nat,i<=k/\j=i/\Hid (Bp (λj=>Gq (gb l j) (gb l k)) i=false)/\Be w wr) λj _=>k-(intOf j).toNat
  case atStart=>exact⟨0,aB,rfl,Bp.zero _,a⟩
  clear a;obtain⟨i,K,rfl,hq,a⟩:=hrel;by_cases e:i<k
  .obtain⟨I,B,rfl,u,C⟩:=(o.keep a).at_ d;let⟨J,s,z,v,s2⟩:=(o.keep a).at_ (show i<n by omega);cases z
   have F:(i:Int)<(k:Int):=aK
   have G:(i:Int)<(n:Int):=aK
   have H:(0:Int)<=(i:Int):=aK
   let⟨q,hq2⟩:=gN ((gb l k).toList == (gb l i).toList)
   have h:=Ar (show Gq (gb l i) (gb l k)=q by rw[jq];exact hq2);let⟨x,p⟩:=gN (gb l k)
   let⟨y,r⟩:=gN (gb l i)
   rw[p]at u hq2;rw[r]at v hq2;clear C s2 p r;go_upto_region 7 with fail;go_quiet (fail);have c:=Bd a nq;cases q with
   | true =>
     have t:=Ar (Bp.yes (f:=twB l) d (Bp.yes (f:=λj=>Gq (gb l j) (gb l k)) e h.out));go_wp2;go_ret;exact⟨by rw[t.out];rfl,c⟩
   | false =>
     have g:=Bp.succ (f:=λj=>Gq (gb l j) (gb l k)) hq.out h.out;go_wp2;exact aE ⟨g,c⟩
  obtain rfl:k=i:=aK
  have g:=Bp.succ (f:=twB l) m.out hq.out;go_wp2;exact aE ⟨g,a⟩
 obtain rfl:n=k:=aK
 go_wp2;go_ret;exact⟨by rw[m.out];rfl,a⟩
theorem Alw(s:StyleP)(h:SmS s)(t:StV w c s):Calls prog 110 #[.agg c] w (Bz w (.bool false)):=by
 obtain⟨J,z2,K,L,M,N⟩:=h;obtain⟨O,U,P,V,Q,W,R,Y,S,Z,T,c6,rfl,⟨A,B,C⟩,⟨D,E,F⟩,⟨G,H,I⟩,⟨i,j,k⟩,⟨l,m,o⟩,p,q⟩:=t;go_enter func110,ntmps110;go_upto_region 1 with fail;refine Bq λX g r=>?_
 let⟨p0,u,p2,v,x,y,z⟩:=st7 r;clear A B C D E F G H I i j k l m o p q;let⟨n1,a⟩:=gN s.sz.length
 let⟨n3,b⟩:=gN s.pc.length
 let⟨n4,d⟩:=gN s.us.length
 let⟨n5,e⟩:=gN s.se.length
 let⟨n6,f⟩:=gN s.no
 rw[a]at u J;rw[b]at v K;rw[d]at x L;rw[e]at y M;rw[f]at z N;clear a b d e f r;go_wp2;go_ret;exact⟨Bn aO,g⟩
theorem Acz{f:Nat}(D:f=52\/f=162)(A:Array Value)(s:StyleP)(x y:Int)(w:World)(g:SmS s)(E:StV w A s):Calls prog f #[.agg A,x,y] w (Bz w (.bool (Td s.pc x y))):=by
 rcases D with rfl|rfl
 all_goals
  have d:=Ar (show Td s.pc x y=(decide (0<=x)&&decide (x<s.pc.length)&&decide (0<=y)&&decide (y<(pce s.pc x.toNat).ed.length)) from rfl);obtain⟨W,c1,Y,c2,Z,c3,A4,c4,A5,c5,A6,c6,rfl,⟨v1,v2,v3⟩,⟨v4,v5,v6⟩,⟨z,v8,r⟩,⟨N,O,P⟩,⟨Q,R,S⟩,T,U⟩:=E;have z3:=g.pc;clear g;by_cases C:0<=x
  .obtain⟨j,rfl⟩:∃j:Nat,x=j:=⟨x.toNat,aK⟩
   go_in;go_upto_region 1 with fail;refine Bq λX a p=>?_
   let⟨H,I,J,q,K,L,M⟩:=st7 p;let⟨l,b⟩:=gN s.pc.length
   rw[b]at q z r d;clear b;by_cases t:j<l
   .obtain⟨b0,G,rfl,V,h,u⟩:=(r.keep a).at_ t;obtain⟨E1,d1,E2,d2,E3,d3,E4,d4,rfl,⟨B,g2,-⟩,-⟩:=h;have F:=u 1 _ rfl;have o:(j:Int)<(l:Int):=aK
    have i:=Ar (show Td s.pc (j:Int) y=(decide (0<=y)&&decide (y<(pce s.pc j).ed.length)) by rw[d.out,bV (show (0:Int)<=(j:Int) by omega),bV o];simp);let⟨m,v⟩:=gN ((pce s.pc j).ed.length)
    rw[v]at i F B;clear u v d;by_cases e:0<=y
    .by_cases k:y<(m:Int)
     .have c:=Ar (show Td s.pc (j:Int) y=true by rw[i.out];simp[e,k])
      go_wp2;all_goals go_ret
      all_goals exact⟨by rw[c.out];simp[e,k],a⟩
     have c:=Ar (show Td s.pc (j:Int) y=false by rw[i.out];simp[e,k])
     go_wp2;all_goals go_ret
     all_goals exact⟨by rw[c.out];simp[e,k],a⟩
    have c:=Ar (show Td s.pc (j:Int) y=false by rw[i.out];simp[e])
    go_wp2;all_goals go_ret
    all_goals exact⟨by rw[c.out];rfl,a⟩
   have o:¬(j:Int)<(l:Int):=aK
   have c:=Ar (show Td s.pc (j:Int) y=false by rw[d.out,decide_eq_false o];simp);clear t;go_wp2;all_goals go_ret
   all_goals exact⟨by rw[c.out];rfl,a⟩
  have c:=Ar (show Td s.pc x y=false by rw[d.out,decide_eq_false C];simp);go_in;go_upto_region 1 with fail;refine Bq λX a p=>?_
  let⟨H,I,J,q,K,L,M⟩:=st7 p;let⟨l,b⟩:=gN s.pc.length
  rw[b]at q z r d;clear b;go_wp2;all_goals go_ret
  all_goals exact⟨by rw[c.out];rfl,a⟩
def Fx:=@Acz 52 (.inl rfl)
def Kd:=@Acz 162 (.inr rfl)
def ij(p:PieceP):Int:=if p.wd.length≠p.ed.length then 1 else if Bp (wdB p.wd) p.wd.length then 3 else 0
theorem Aer(p:PieceP)(F:PcV w c p)(C:p.ed.length<=1000000):Calls prog 161 #[.agg c] w (Bz w (ij p)):=by
 obtain⟨M,S,N,T,O,U,P,V,rfl,⟨J,v2,L⟩,-,-,⟨r,K,m⟩⟩:=F;have e:=Ar (show ij p=if p.wd.length≠p.ed.length then 1 else if Bp (wdB p.wd) p.wd.length then 3 else 0 from rfl);clear L;go_in;go_upto_region 1 with fail;refine Bq λX a v=>?_
 obtain⟨-,H,-,-,-,I,-⟩:=st7 v;have u:=m.keep a;let⟨y,h⟩:=gN p.ed.length
 let⟨n4,j⟩:=gN p.wd.length
 rw[h]at e H J C;rw[j]at e I r u;clear h j v m;by_cases l:n4=y
 .subst l;have s:=Ar (show ij p=if Bp (wdB p.wd) n4 then 3 else 0 by rw[e.out,if_neg aK]);clear e;go_upto_region 4 with fail;go_loopw [3] (λi wr=>∃k:Nat,k<=n4/\i=k/\Hid (Bp (wdB p.wd) k=false)/\X=wr) (λi _=>n4-(intOf i).toNat)
  case atStart=>exact⟨0,aB,rfl,Bp.zero _,rfl⟩
  obtain⟨k,Z,rfl,x,rfl⟩:=hrel;by_cases g:k<n4
  .obtain⟨b,G,rfl,E⟩:=u.at_ g;have R:(k:Int)<(n4:Int):=aK
   have Q:(0:Int)<=(k:Int):=aK
   let⟨z,q⟩:=gN (gi p.wd k)
   have t:=Ar (show wdB p.wd k=(decide (z<0) || decide (500<z)) by unfold wdB;rw[q]);rw[q]at E;clear q;by_cases o:z<0\/500<z
   .have d:=Ar (show ij p=3 by rw[s.out,if_pos (Bp.yes (f:=wdB p.wd) g (by rw[t.out];simpa using o))]);rcases Classical.em (z<0) with D|D
    .clear o;go_wp2;go_ret;exact⟨by rw[d.out];rfl,a⟩
    replace o:500<z:=aK
    go_wp2;go_ret;exact⟨by rw[d.out];rfl,a⟩
   have A:=Bp.succ (f:=wdB p.wd) x.out (by rw[t.out];simp;omega);have W:¬z<0:=aK
   have Y:¬500<z:=aK
   clear o;go_wp2;exact aE ⟨A,trivial⟩
  obtain rfl:n4=k:=aK
  have d:=Ar (show ij p=0 by rw[s.out,x.out];rfl);go_wp2;go_ret;exact⟨by rw[d.out];rfl,a⟩
 have d:=Ar (show ij p=1 by rw[e.out,if_pos l]);have B:¬(n4:Int)=(y:Int):=aK
 go_wp2;go_ret;exact⟨by rw[d.out];rfl,a⟩
theorem vk{f:Nat->Bool}:Bp f (b+1)=(Bp f b || f b):=by
 unfold Bp;rw[fB,List.any_append];simp
def ik(s:StyleP):Bool:=Cy s.nm&&!decide (s.sz.length=0)&&!Bp (λi=>!szB (gb s.sz i)) s.sz.length&&(Bp (λi=>(0:Int) == gi s.mu i) s.mu.length&&decide (s.mu.length=s.sz.length))
theorem jb(s:StyleP)(J:SmS s)(hv:StV w c s):Calls prog 108 #[.agg c] w (Bz w (.bool (ik s))):=by
 obtain⟨z1,z2,z3,z4,z5,z6⟩:=J;have m:=Ar (show ik s=(Cy s.nm&&!decide (s.sz.length=0)&&!Bp (λi=>!szB (gb s.sz i)) s.sz.length&&(Bp (λi=>(0:Int) == gi s.mu i) s.mu.length&&decide (s.mu.length=s.sz.length))) from rfl);obtain⟨A1,c1,A2,c2,A3,c3,A4,c4,A5,c5,A6,c6,rfl,⟨v1,v2,v3⟩,⟨v4,v5,v6⟩,⟨v7,v8,v9⟩,⟨M,N,O⟩,⟨P,Q,R⟩,S,T⟩:=hv;go_enter func108,ntmps108;go_upto_region 1 with fail;refine Bq λX a W=>?_
 let⟨p0,p1,p2,p3,p4,p5,p6⟩:=st7 W;have Y:=v3.keep a;have V:=v6.keep a;clear v3 v6 v7 v8 v9 M N O P Q R S T p3 p4 p5 p6 W z3 z4 z5 z6;let⟨b,y⟩:=gN s.sz.length
 let⟨h,A⟩:=gN s.mu.length
 rw[y]at m p1 v1 z1 Y;rw[A]at m p2 v4 z2 V;clear y A;let⟨q,hq⟩:=gN (Cy s.nm)
 rw[hq]at m;have G:=Ar hq;clear hq;by_cases d:q=false\/b=0
 .have p:=Ar (show ik s=false by rw[m.out];rcases d with rfl|rfl<;>simp);rcases d with rfl|rfl
  .go_wp2_with (go_at_call 158;refine(Dp s.nm).mono ?_;rintro e w1 ⟨rfl,rfl⟩;rw[G.out])
   go_ret;exact⟨by rw[p.out];rfl,a⟩
  cases q<;>go_wp2_with (go_at_call 158;refine(Dp s.nm).mono ?_;rintro e w1 ⟨rfl,rfl⟩;rw[G.out])
  all_goals go_ret
  all_goals exact⟨by rw[p.out];first|rfl|simp,a⟩
 let⟨h0,U⟩:q=true/\b≠0:=by cases q<;>simp_all
 subst h0;clear d;have F:=Ar (show ik s=(!Bp (λi=>!szB (gb s.sz i)) b&&(Bp (λi=>(0:Int) == gi s.mu i) h&&decide (h=b))) by rw[m.out,decide_eq_false U];rfl);clear m;have K:((b:Int) == 0)=false:=by simpa using U
 go_upto_region 4 with (go_at_call 158;refine(Dp s.nm).mono ?_;rintro e w1 ⟨rfl,rfl⟩;rw[G.out])
 clear K;go_loopw [3] (λj wr=>∃k:Nat,k<=b/\j=k/\Hid (Bp (λi=>!szB (gb s.sz i)) k=false)/\X=wr) λj _=>b-(intOf j).toNat
 case atStart=>exact⟨0,aB,rfl,Bp.zero _,rfl⟩
 obtain⟨k,Z,rfl,t,rfl⟩:=hrel;by_cases g:k<b
 .obtain⟨b0,L,rfl,I,l⟩:=Y.at_ g;have B1:(k:Int)<(b:Int):=aK
  let⟨x,B⟩:=gN (gb s.sz k)
  rw[B]at I l;cases hbb:szB x with
  | false =>
    have p:=Ar (show ik s=false by rw[F.out,Bp.yes (f:=λi=>!szB (gb s.sz i)) g (by rw[B,hbb];rfl)];rfl);have E:=Ar hbb;clear B hbb
    go_wp2_with (go_at_call 159;refine aG (Tv x l) ?_;rw[E.out])
    go_ret;exact⟨by rw[p.out];rfl,a⟩
  | true =>
    have o:=Bp.succ (f:=λi=>!szB (gb s.sz i)) t.out (by rw[B,hbb];rfl);have E:=Ar hbb;clear B hbb
    go_wp2_with (go_at_call 159;refine aG (Tv x l) ?_;rw[E.out])
    exact aE ⟨o,trivial⟩
 obtain rfl:b=k:=aK
 have D:=Ar (show ik s=(Bp (λi=>(0:Int) == gi s.mu i) h&&decide (h=b)) by rw[F.out,t.out];rfl);clear t F Z g;go_upto_region 10 with fail;go_loopw [4,5] (λv j wr=>∃(k:Nat) (r:Bool),k<=h/\j=k/\v=.bool r/\Hid (Bp (λi=>(0:Int) == gi s.mu i) k=r)/\X=wr) λ_ j _=>h-(intOf j).toNat
 case atStart=>exact⟨0,_,aB,rfl,rfl,Ar rfl,rfl⟩
 obtain⟨k,r,Z,rfl,rfl,t,rfl⟩:=hrel;by_cases g:k<h
 .obtain⟨b0,L,rfl,I⟩:=V.at_ g;have B1:(k:Int)<(h:Int):=aK
  have o:Hid (Bp (λi=>(0:Int) == gi s.mu i) (k+1)=(r || (0:Int) == gi s.mu k)):=Ar (by rw[<-t.out];exact vk);cases r with
  | true =>
    go_wp2;exact⟨⟨k+1,_,aK,aP,rfl,Ar (by rw[o.out];rfl),trivial⟩,aI⟩
  | false =>
    let⟨z,C⟩:=gN (gi s.mu k)
    rw[C]at I o;clear C;by_cases u:z=0
    .subst u
     go_wp2;exact⟨⟨k+1,_,aK,aP,rfl,Ar (by rw[o.out];rfl),trivial⟩,aI⟩
    have e1:(z == 0)=false:=by simpa using u
    have H:=Ar (show Bp (λi=>(0:Int) == gi s.mu i) (k+1)=false by rw[o.out];simp;omega)
    go_wp2;exact⟨⟨k+1,_,aK,aP,rfl,H,trivial⟩,aI⟩
 obtain rfl:h=k:=aK
 rw[t.out]at D;cases r with
 | false =>
   go_wp2;go_ret;exact⟨by rw[D.out];rfl,a⟩
 | true =>
   by_cases u:h=b
   .subst u
    go_wp2;go_ret;exact⟨by rw[D.out];simp,a⟩
   have e1:¬(h:Int)=(b:Int):=aK
   have p:=Ar (show ik s=false by rw[D.out];simpa using u)
   go_wp2;go_ret;exact⟨Bn (by rw[p.out];simp;omega),a⟩
section
open Go.RowKit Limb
theorem Apg{vx:Value}(H:Ib w b vx x)(E:RB 600 x):Calls prog 233 #[vx] w (Xi w (-x)):=by
 have k:=H;obtain⟨mx,dx,rfl,I,q⟩:=H;obtain⟨Ax,nx,cx,rfl⟩:=I.sl;obtain⟨Bx,ox,ex,rfl⟩:=q.sl;let⟨C,ad⟩:=Qe E;have O:=x.den_nz;let⟨p,y⟩:=gN (decide (x.num<0))
 have D:=Ar y;rw[y]at k ⊢;clear y I q;let⟨z,r⟩:=gN (-x)
 have N:=Ar (show sg (!p) x.num.natAbs=z.num by rw[<-r,<-D.out,Adf];rfl);have L:=Ar (show x.den=z.den by rw[<-r];rfl);rw[r];clear r;go_enter func233,ntmps233;go_upto_region 1 with fail;refine Eo λX m G j=>?_
 obtain⟨Z,p1,p2,-⟩:=G.triple;have u:=j.lt
 go_upto_region 2 with (go_at_call 221;refine aF (Aam (k.keep m) E) λw1 v1 R g=>?_;obtain⟨m1,d1,rfl,f,d⟩:=R;obtain⟨A1,n1,c1,rfl⟩:=f.sl;obtain⟨K,V,Q,rfl⟩:=d.sl)
 refine Bq λY c i=>?_
 rw[D.out]at i;replace f:=f.keep c;replace d:=d.keep c;have t:=An (An m g) c;replace j:=j.keep (An g c);have A:=g.size;have B:=c.size;have S:=i.lt;have U:w1.heap.size≠w.heap.size+1:=aK
 have a:=Aw (aV Y Y);have l:=a;clear Z p1 p2 G
 go_region_held3 (sB λW h=>Iv (i.keep h))
  (first
   | with_reducible exact Iv (i.keep a)
   | with_reducible exact Iv ((i.keep a).far3 U _ _ _))
  ((go_at_call 301;refine aF (Aph p (f.keep l) C) λw2 v2 F s=>?_;rw[N.out]at F;obtain⟨m2,rfl,o⟩:=F;obtain⟨J,T,P,rfl⟩:=o.sl;replace a:=An a s;let⟨r0,r1,r2,f0,f1,f2,lt⟩:=(j.keep a).triple))
 all_goals go_wp2_with fail
 have n:=d.keep a;rw[L.out]at n;let⟨s0,s1,s2,M⟩:=Dn (w:=w) (j.keep a) (o.lower (show X.heap.size<=_ from bB A (bB B l.size))) n u (An t a);exact bR M rfl (by simp[results,results233,go_sem,s0,s1,s2])
theorem Amq:RC 175 HSub.hSub:=by
 intro w V Y x y vx vy l m H f;let⟨z,t⟩:=gN (x-y)
 have G:=Ar (show x + -y=z by rw[<-t];exact(Rat.sub_eq_add_neg x y).symm);have g:=Ar t;clear t;obtain⟨p,R,nx,Z,T,ox,ex,rfl,-,-,-⟩:=l.op;obtain⟨q,S,ny,cy,U,oy,ey,rfl,-,-,-⟩:=m.op;have E:=Ar λ(W:World) (h:Be w W)=>l.keep h;have F:=Ar λ(W:World) (h:Be w W)=>m.keep h;clear l m;go_in;go_upto_region 1 with fail;refine Jy λX d i j k=>?_
 have r:=k.lt;have M:w.heap.size≠w.heap.size+1+1:=aK
 have N:w.heap.size+1≠w.heap.size+1+1:=aK
 have a:=Aw (aV X X);have c:=a
 go_region_held3 (sB λW h=>Kf (i.keep h) (j.keep h))
  (first
   | with_reducible exact Kf (i.keep a) (j.keep a)
   | with_reducible exact Kf ((i.keep a).far3 M _ _ _) ((j.keep a).far3 N _ _ _))
  ((first
    | (go_at_call 232;have K:=u;refine aF (An1 (E.out _ (An (An d c) b)) u H f.neg) λw9 v9 A n=>?_;rw[G.out]at A;obtain⟨_,B,L,I,C,O,J,rfl,rfl,s,o⟩:=A.op;replace a:=An a n;let⟨r0,r1,r2,f0,f1,f2,lt⟩:=(k.keep a).triple)
    | (go_at_call 233;refine aF (Apg (F.out _ (An d c)) f) λw2 v2 u b=>?_;replace a:=An a b)))
 all_goals go_wp2_with fail
 let⟨P,Q,s2,D⟩:=Dn (w:=w) (k.keep a) s o (aZ r (An c b).size) (An d a);exact bR (by rw[g.out];exact D) rfl (by simp[results,results175,go_sem,P,Q,s2])
end
section
open Go.RowKit Limb
theorem kof(n:Int)(N : -4611686018427387904<=n)(O:n<=4611686018427387904):Calls prog 293 #[n,.int .i64 1] w λe C=>∃v,e=.returned (.tuple #[v,.bool true])/\Ib C w v (n:Rat)/\Be w C:=by
 let⟨z,u⟩:=gN ((n:Rat):Rat)
 have x:=Ar (show mkRat (sg (decide (n<0)) n.natAbs) 1=z by rw[I7,<-u];exact Rat.mkRat_self (n:Rat));rw[u];let⟨p,t⟩:=gN (decide (n<0))
 have J:=Ar t;let⟨P,c⟩:=gN n.natAbs
 have I:=Ar c;have E:=x.out;rw[t,c]at E;have G:=Ar E;have Z:Sm P:=F7 (m:=64) (by rw[<-c,show (2:Nat) ^ 64=18446744073709551616 from by decide];omega);clear u t c E x;go_in;go_upto_region 1 with fail;refine Bq λX s A=>?_
 have T:=A.lt
 go_upto_region 4 with (first
  | (go_at_call 234;have S:=d;refine(jof 1 aK aK).mono ?_;rintro e w5 ⟨v5,rfl,⟨m5,rfl,l⟩,f⟩;obtain⟨A5,n5,c5,rfl⟩:=l.sl)
  | (go_at_call 234;refine(jof n N O).mono ?_;rintro e w4 ⟨v4,rfl,⟨m4,rfl,k⟩,d⟩;obtain⟨A4,n4,c4,rfl⟩:=k.sl))
 rw[J.out];refine Eo λY a Q R=>?_
 obtain⟨g0,g1,-⟩:=Q.pair;obtain⟨k0,k1,-⟩:=R.pair;have g:=(k.keep f).keep a;have o:=l.keep a;rw[I.out]at g;have r:=An (An (An s d) f) a;have h:=A.keep (An (An d f) a);have B:=(An (An d f) a).size
 go_wp2_with (go_at_call 222;refine aF (O9 p g o Z (F7 (m:=1) aM) aM) λw9 v9 y i=>?_;rw[show ((1:Int)).natAbs=1 from rfl,G.out]at y;obtain⟨m9,d9,rfl,q,j⟩:=y;obtain⟨D,U,L,rfl⟩:=q.sl;obtain⟨F,V,M,rfl⟩:=j.sl;let⟨r0,r1,r2,f0,f1,f2,lt⟩:=(h.keep i).triple)
 let⟨W,B,s2,a1,b,K,H⟩:=Dn (w:=w) (h.keep i) q j h.lt (An r i);injection b with b
 exact cB (v:=.tuple #[.agg #[.bool (decide (z.num<0)),.slice D U L,.slice F V M],.bool true]) (by simp[results,results293,go_sem,W,B,s2]) rfl ⟨_,rfl,by rw[b];exact K,H⟩
end
section
open Go.RowKit Limb
theorem Ajq{vx:Value}(S:Ib w b vx x)(k:RB 600 x):Calls prog 174 #[vx] w (wm w (rnd x.num x.den)):=by
 have L:Sm (2*x.num.natAbs):=F7 (m:=600+1) (by rw[Nat.two_mul];exact S7 (m:=600) k.1 k.1);have s3:Sm (2*x.den):=F7 (m:=600+1) (by rw[Nat.two_mul];exact S7 (m:=600) k.2 k.2);have s2:Sm (2*x.num.natAbs+x.den):=F7 (m:=600+2) (by rw[Nat.two_mul];exact S6 (m:=600) k.1 k.2);have u:=S;obtain⟨mx,dx,rfl,T,E⟩:=S;obtain⟨Ax,nx,cx,rfl⟩:=T.sl;obtain⟨Bx,ox,ex,rfl⟩:=E.sl;let⟨M,F⟩:=Qe k;have a7:=x.den_nz;let⟨p,J⟩:=gN (decide (x.num<0))
 have N:=Ar J;rw[J]at u ⊢;clear J T E;let⟨z,K⟩:=gN (rnd x.num x.den)
 have EQ:Hid (sg p ((2*x.num.natAbs+x.den) / (2*x.den))=z):=Ar (by
  rw[<-K,<-N.out];unfold rnd sg;by_cases h:x.num<0<;>simp[h])
 have sQ:Sm ((2*x.num.natAbs+x.den) / (2*x.den)):=s2.le (Nat.div_le_self _ _);have I:0<2*x.den:=aK
 have U:Sm 2:=F7 (m:=2) aM;rw[K];clear K;go_enter func174,ntmps174;go_upto_region 1 with fail;refine Eo λX B R t=>?_
 obtain⟨p0,p1,p2,-⟩:=R.triple;have aw:=t.lt
 go_upto_region 2 with (go_at_call 221;refine aF (Aam (u.keep B) k) λw1 v1 h1 o=>?_;obtain⟨m1,d1,rfl,d,c⟩:=h1;obtain⟨A1,n1,c1,rfl⟩:=d.sl;obtain⟨B1,o1,e1,rfl⟩:=c.sl)
 refine Bq λY i l=>?_
 rw[N.out]at l;replace d:=d.keep i;replace c:=c.keep i;have s:=An (An B o) i;replace t:=t.keep (An o i);have b0:=o.size;have b1:=i.size;have au:=l.lt;clear p0 p1 p2 R
 go_upto_region 3 with (go_at_call 229;refine aF (All 2 aK) λV v2 O f=>?_)
 replace l:=l.keep f;replace d:=d.keep f;replace c:=c.keep f;replace t:=t.keep f;replace s:=An s f;have a:=Aw (aV V V);have g:=a
 go_region_held3 (sB λW h=>Iv (l.keep h))
  (with_reducible exact Iv (l.keep a))
  ((first
    | (go_at_call 230;refine(Aab (P.keep A) h5 s2 s3 I).mono ?_;rintro e w6 ⟨q6,r6,rfl,D,-,H⟩;obtain⟨A6,n6,c6,rfl⟩:=D.sl;replace a:=An a H)
    | (go_at_call 223;have ak:=P;refine aF (Acs (((O.keep g).keep j).keep q) (((c.keep g).keep j).keep q) U F) λw5 v5 h5 A=>?_;replace a:=An a A)
    | (go_at_call 231;refine aF (Anj h3 ((c.keep g).keep j) L F) λw4 v4 P q=>?_;replace a:=An a q)
    | (go_at_call 223;refine aF (Acs (O.keep g) (d.keep g) U M) λw3 v3 h3 j=>?_;replace a:=An a j)))
 have G:=l.keep a;have n:=t.keep a;have y:=An s a;obtain⟨g0,g1,g2,-⟩:=G.triple
 go_wp2_with (go_at_call 228;refine aF (Af5 p D sQ) λw7 v7 Q r=>?_;rw[EQ.out]at Q;obtain⟨m7,rfl,C⟩:=Q;obtain⟨Z,n7,c7,rfl⟩:=C.sl;let⟨r0,r1,f0,f1,lt⟩:=(n.keep r).pair)
 let⟨s0,L,HR⟩:=Gd (w:=w) (n.keep r) C n.lt (An y r);exact bR HR rfl (by simp[results,results174,go_sem,s0,L])
end
section
open Go.RowKit Limb
theorem qk:PC 170 HSub.hSub:=pt2 @Amq (.inr (.inr (.inl ⟨rfl,rfl⟩)))
theorem Amr:PC 225 HAdd.hAdd:=pt2 @An1 (.inr (.inr (.inr ⟨rfl,rfl⟩)))
theorem Afz:SC 226:=Ant @An0 (.inr ⟨rfl,rfl⟩)
theorem qp:XC 169:=ptx @An0 @Amq (.inr ⟨rfl,rfl,rfl⟩)
def Ape:=@Anu 171 225 226 170 @Amr @Afz @qk (.inr ⟨rfl,rfl,rfl,rfl⟩)
end
section
open Go.RowKit Limb
theorem Anz(n:Int)(r : -4611686018427387904<=n)(s:n<=4611686018427387904):Calls prog 227 #[n] w (Xi w (n:Rat)):=by
 let⟨z,i⟩:=gN ((n:Rat):Rat)
 have o:=Ar i;rw[i];clear i;go_in;go_upto_region 1 with fail;refine Bq λX h j=>?_
 go_upto_region 2 with (go_at_call 293;refine aF (kof n r s) λN M g c=>?_;rw[o.out]at g;obtain⟨I,B,rfl,f,d⟩:=g;obtain⟨k,u,p,rfl⟩:=f.sl;obtain⟨l,x,q,rfl⟩:=d.sl)
 refine Bq λY a t=>?_
 have b:=j.keep (An c a);obtain⟨F,G,H,-⟩:=t.triple;let⟨J,K,L,C,D,E,lt⟩:=b.triple;go_wp2;let⟨y,A,s2,m⟩:=Dn (w:=w) b (f.keep a) (d.keep a) j.lt (hw:=aA) (An h (An c a));exact bR m rfl (by simp[results,results227,go_sem,y,A,s2])
theorem Apf(x y:Int)(l : -4611686018427387904<=x)(m:x<=4611686018427387904)(H : -4611686018427387904<=y)(I:y<=4611686018427387904):Calls prog 172 #[x,y] w (Aei w (x:Rat) (y:Rat)):=by
 let⟨T,d⟩:=gN ((x:Rat):Rat)
 let⟨U,f⟩:=gN ((y:Rat):Rat)
 have u:=Ar d;have A:=Ar f;rw[d,f];clear d f;go_in;go_upto_region 1 with fail;refine Bq λX o n=>?_
 have p:=n.lt
 go_wp2_with (first
  | (go_at_call 227;have J:=b;refine aF (Anz y H I) λw2 v2 m c=>?_;rw[A.out]at m;obtain⟨m2,W,rfl,j,h⟩:=m;obtain⟨s,N,E,rfl⟩:=j.sl;obtain⟨t,n4,F,rfl⟩:=h.sl;have a:=An b c;obtain⟨r0,r1,r2,r3,r4,r5⟩:=cells6 (n.keep a);obtain⟨Y,Z,f2,f3,f4,f5,G⟩:=fq (n.keep a))
  | (go_at_call 227;refine aF (Anz x l m) λw1 v1 l b=>?_;rw[u.out]at l;obtain⟨m1,V,rfl,i,g⟩:=l;obtain⟨q,L,C,rfl⟩:=i.sl;obtain⟨r,M,D,rfl⟩:=g.sl))
 have k:=b.size;obtain⟨K,B⟩:=K8 (w:=w) (n.keep a) ⟨_,_,rfl,i.keep c,g.keep c⟩ ⟨_,_,rfl,j.lower k,h.lower k⟩ p (An o a);obtain⟨O,P,s2,Q,R,S⟩:=cells6 K;exact bR B rfl (by simp[results,results172,go_sem,O,P,s2,Q,R,S])
end
section
open Go.RowKit Limb
theorem Ajt(hZ:P9 w b e z)(sz:Sm z.natAbs):Calls prog 173 #[e] w (M8 w z):=by
 obtain⟨mz,rfl,l⟩:=hZ;obtain⟨Az,nz,cz,rfl⟩:=l.sl;have r:=Ar (I7 z);generalize C:z.natAbs=a at r l sz;have A:=Ar C;let⟨p,N⟩:=gN (decide (z<0))
 have B:=Ar N;rw[N]at r ⊢;go_in;go_upto_region 1 with fail;refine Bq λX u U=>?_
 obtain⟨p0,p1,-,-,-⟩:=U.pair
 go_upto_region 2 with (go_at_call 228;refine aF (Af5 p (l.keep u) sz) λw1 v1 S D=>?_;rw[r.out]at S;obtain⟨m1,rfl,y⟩:=S;obtain⟨A1,n1,c1,rfl⟩:=y.sl;rw[B.out])
 refine Bq λY m T=>?_
 have V:=y.keep m;rw[A.out]at V;have v:=An (An u D) m;obtain⟨A',c',e',q1,q2,Z,q4,q5⟩:=V;injection e' with e1 e2 e3
 subst e1 e2 e3;let⟨k,o⟩:=gN ((lmb a).length)
 rw[o]at q1 Z T ⊢;obtain⟨g0,g1,-,-,-⟩:=T.pair;have fin0:Hid (9223372036854775808<=a->M8 w z (.returned (.tuple #[.int .i64 0,.bool false])) Y):=Ar (λh=>⟨0,false,rfl,(λh=>by cases h),(λ_=>by rw[A.out];exact h),v⟩);by_cases G:k<=2
 .have s:a<18446744073709551616:=by
   have:=Mx a;rw[o]at this;exact aZ this (bB (bJ aM G) aM)
  have q:=Ar s;have F:a / BB ^ k=0:=dZ (by have:=Mx a;rw[o]at this;exact this);have J:=Ar F
  go_upto_region 6 with fail;go_loopw [5,6] (λn i wr=>∃(j nn:Nat),j<=k/\i=.int .i64 ((j:Int)-1)/\n=.int .u64 (nn:Int)/\Hid (nn=a / BB ^ j)/\wr=Y) (λ_ i _=>(intOf i+1).toNat)
  case atStart=>exact⟨k,0,aA,rfl,rfl,Ar J.out.symm,rfl⟩
  obtain⟨j,nn,hj,rfl,rfl,K,rfl⟩:=hrel;rcases j with - | t
  .have hn:nn=a:=by rw[K.out,gD,Nat.div_one]
   subst hn;have d:=q.out;have g:=r.out;cases p with
   | true =>
     have l:z = -(nn:Int):=by rw[<-g];rfl
     have W:0<nn:=by have:=B.out;simp at this;omega
     by_cases f:nn<=9223372036854775808
     .have I:(nn:Int)<=9223372036854775808:=aK
      have fin:Hid (M8 w z (.returned (.tuple #[(-(nn:Int):Int),.bool true])) wr):=Ar ⟨_,true,rfl,(λ_=>l.symm),(λh=>by cases h),v⟩
      have D2:IntKind.i64.wrap ((nn:Int)-1)=(nn:Int)-1:=aD
      have D4:IntKind.i64.wrap (-((nn:Int)-1)-1) = -(nn:Int):=aD
      go_wp2
      go_ret2
      exact fin.out
     have I:¬(nn:Int)<=9223372036854775808:=aK
     have E:=fin0.out aK;clear f l g r A B d fin0;go_wp2
     go_ret2
     exact E
   | false =>
     have l:z=(nn:Int):=by rw[<-g];rfl
     by_cases f:nn<=9223372036854775807
     .have I:(nn:Int)<=9223372036854775807:=aK
      have fin:Hid (M8 w z (.returned (.tuple #[(nn:Int),.bool true])) wr):=Ar ⟨_,true,rfl,(λ_=>l.symm),(λh=>by cases h),v⟩
      go_wp2
      go_ret2
      exact fin.out
     have I:¬(nn:Int)<=9223372036854775807:=aK
     have E:=fin0.out aK;clear f l g r A B d fin0;go_wp2
     go_ret2
     exact E
  have ht:t<k:=aK
  obtain⟨b1,o1,rfl,z1⟩:=Z.at_ ht;have M:=Cv a t
  have c:a / BB ^ t=(a / BB ^ (t+1))*BB+lim a t:=by
   rw[Q7,bZ,<-dK,bN];exact(eQ _ _).symm
  let⟨x,O⟩:=gN (lim a t)
  have H:gu (lmb a) t=x:=O;rw[H]at z1;rw[O]at M c;rw[<-K.out]at c;have f:a / BB ^ t<=a:=Nat.div_le_self _ _;rw[c]at f;have L:Hid (nn*BB+x=a / BB ^ t):=Ar c.symm;unfold BB at M f;have P:((t+1:Nat):Int)-1=(t:Int):=aK
  rw[P]
  go_wp2;exact⟨⟨t,nn*BB+x,aK,rfl,by unfold BB;go_num,L,trivial⟩,aJ⟩
 have E:=fin0.out (by
  have h2:=Sb (n:=a) (by
   intro R;rw[R,Cb]at o;simp at o;omega)
  rw[o]at h2;have h3:BB ^ 2<=BB ^ (k-1):=bJ aM aK;have h4:BB ^ 2=18446744073709551616:=aM
  omega)
 go_wp2
 go_ret2
 exact E
end
section
open Go.RowKit Limb
theorem Amt{Y bx r Z cy dx dy N D:Rat}{vb vc vd:Value}(Q:PtV w b e f Y)(hB:PtV w b vb bx r)(R:PtV w b vc Z cy)(j:PtV w b vd dx dy)(B:RB 22 f)(C:RB 22 Y)(S:RB 22 bx)(T:RB 22 r)(q:RB 22 Z)(F:RB 22 cy)(U:RB 22 dx)(V:RB 22 dy)(hN:(Z-f)*(dy-cy)-(cy-Y)*(dx-Z)=N)(hD:(bx-f)*(dy-cy)-(r-Y)*(dx-Z)=D):Calls prog 117 #[e,vb,vc,vd] w (Ak8 w f Y bx r N D):=by
 obtain⟨n9,e5,lb,gx,e6,lf,gy,na,e7,lg,h0,e8,lk,h8,rfl⟩:=Q.sh;obtain⟨nc,e9,lo,h9,ec,lr,ha,nd,ee,lx,hb,eg,ly,hc,rfl⟩:=hB.sh;obtain⟨nf,ek,mf,hf,eo,mm,hg,ng,er,mo,hh,ev,mr,hj,rfl⟩:=R.sh;obtain⟨nh,ew,mv,hl,ey,mx,hn,ni,fa,my,ho,fb,mz,hr,rfl⟩:=j.sh;have tN:=hN ▸ RB.x q B V F F C U q;have tD:=hD ▸ RB.x S B V F T C U q;have HN:=Ar hN;have HD:=Ar hD;let⟨z,hz⟩:=gN (!decide (D.num=0))
 have HZ:=Ar hz;clear hN hD hz;go_in;go_upto_region 1 with fail;refine Ahw λX i J K ad ai hR=>?_
 replace Q:=Q.keep i;replace hB:=hB.keep i;replace R:=R.keep i;replace j:=j.keep i;go_cut [10,11] λu v W=>∃g p A n c E k l,u=.pointer (some ⟨g,0,none⟩)/\v=.bool z/\(D.num≠0->Ib W 0 (.agg #[.bool p,.slice A n c,.slice E k l]) (N / D))/\Bf W g 184 #[.bool p,.slice A n c,.slice E k l]/\X.heap.size<=g/\Be X W
 case first =>
  go_region_held3 (sB λW h=>c24 (J.keep h) (K.keep h) (ad.keep h) (ai.keep h))
   (exact c24 (J.keep BI.h) (K.keep BI.h) (ad.keep BI.h) (ai.keep BI.h))
   ((first
     | (go_at_call 168;have k4:=I;refine(Ams (h4.keep BI.h) (I.keep BI.h) (tN.le aM) (tD.le aM)).2.2.mono ?_;rintro H w8 ⟨p6,A6,n6,c6,E6,k6,l6,rfl,h6,b6⟩;rw[HZ.out];have kq:=BI.go (a:=X) b6;(try (have y:=KI.go (t:=184) b6;obtain⟨j1,j2,j3,j4,j5,j6,j7⟩:=y.h.triple)))
     | (go_at_call 169;have k3:=h6;refine aF (qp (h5.keep BI.h) (h6.keep BI.h) (S.d B) (T.d C) (U.d q) (V.d F)) λw7 v7 I o=>?_;rw[HD.out]at I;have kp:=BI.go (a:=X) o;have l2:=BI.go (a:=w4) o;(try have y:=KI.go (t:=184) o))
     | (go_at_call 170;have k2:=h5;refine aF (qk (j.keep BI.h) (R.keep BI.h) U.w V.w q.w F.w) λw6 v6 h6 s=>?_;have kl:=BI.go (a:=X) s;have l1:=BI.go (a:=w4) s;have j9:=BI.go (a:=w5) s;(try have y:=KI.go (t:=184) s))
     | (go_at_call 170;have k1:=h4;refine aF (qk (hB.keep BI.h) (Q.keep BI.h) S.w T.w B.w C.w) λw5 v5 h5 O=>?_;have kk:=BI.go (a:=X) O;have l0:=BI.go (a:=w4) O;(try have y:=KI.go (t:=184) O))
     | (go_at_call 169;have k0:=h3;refine aF (qp (h2.keep BI.h) (h3.keep BI.h) (q.d B) (F.d C) (U.d q) (V.d F)) λw4 v4 h4 aw=>?_;rw[HN.out]at h4;have kh:=BI.go (a:=X) aw;(try have y:=KI.go (t:=184) aw))
     | (go_at_call 170;have jr:=h2;refine aF (qk (j.keep BI.h) (R.keep BI.h) U.w V.w q.w F.w) λw3 v3 h3 M=>?_;have k9:=BI.go (a:=X) M;have kz:=BI.go (a:=w2) M;(try have y:=KI.go (t:=184) M))
     | (go_at_call 170;refine aF (qk (R.keep BI.h) (Q.keep BI.h) q.w F.w B.w C.w) λw2 v2 h2 au=>?_;have k5:=BI.go (a:=X) au;(try have y:=KI.go (t:=184) au))))
  all_goals go_wp2
  all_goals go_meet
  all_goals (first
   | exact⟨_,p6,A6,n6,c6,E6,k6,l6,rfl,rfl,λh=>((h6 h).lower aB).keep blA,Bf.new _ _ _,LI.h,BI.h⟩
   | exact⟨_,p6,A6,n6,c6,E6,k6,l6,rfl,rfl,λh=>((h6 h).lower aB).farB3 y.h _ _ _,y.h.set3,LI.h,BI.h⟩)
 obtain⟨g,p6,A6,n6,c6,E6,k6,l6,rfl,rfl,hT,hG,l3,d⟩:=hcut;have c4:=An i d;have c5:=hR.lt;have L:=hR.keep d;by_cases G:D.num=0
 .obtain⟨r0,B,C,S,T,q⟩:=cells6 L;obtain⟨f0,f1,f2,f3,f4,f5,bt⟩:=fq L;have H0:=Ar G;obtain rfl:z=false:=HZ.out.symm.trans (by rw[bV G];rfl);clear G hT;go_wp2_with fail;obtain⟨s0,s1,s2,s3,s4,s5⟩:=cells6 (L.set6 (a':=.bool false) (b':=.slice none 0 0) (c':=.slice none 0 0) (d':=.bool false) (e':=.slice none 0 0) (f':=.slice none 0 0));exact cB (v:=.tuple #[.agg #[.bool false,.slice none 0 0,.slice none 0 0,.bool false,.slice none 0 0,.slice none 0 0],.int .i64 10]) (by simp[results,results117,go_sem,s0,s1,s2,s3,s4,s5]) rfl ⟨_,_,_,_,_,_,_,_,_,_,_,_,_,_,by rw[if_pos H0.out],λh=>absurd H0.out h,Xl c4⟩
 replace hT:=hT G;have tT:=(RB.div (m:=181) (n:=181) tN tD G).le (show _<=390 by decide);have H0:=Ar G;obtain rfl:z=true:=HZ.out.symm.trans (by rw[decide_eq_false G];rfl);clear G;obtain⟨a0,a1,a2,a3,a4,a5⟩:=cells6 (J.keep d);obtain⟨b0,b1,b2,b3,b4,b5⟩:=cells6 (K.keep d);obtain⟨g0,g1,g2,-,-,-,-⟩:=hG.triple
 go_wp2_with (go_at_call 171;refine aF (Ape (Q.keep d) (hB.keep d) hT (B.le aM) (C.le aM) (S.le aM) (T.le aM) tT) λw7 v7 I o=>?_;obtain⟨p7,B1,n1,e1,B2,n2,e2,p8,B3,n3,e3,B4,n4,e4,rfl⟩:=I.sh;have x:=An d o;obtain⟨r0,B,C,S,T,q⟩:=cells6 (hR.keep x);obtain⟨f0,f1,f2,f3,f4,f5,bt⟩:=fq (hR.keep x))
 obtain⟨hZ,v9,P,bp,bm⟩:=K8 (w:=w) (hR.keep x) I.ab.1 I.ab.2 (aZ c5 d.size) (An i x);injection P with P
 obtain⟨s0,s1,s2,s3,s4,s5⟩:=cells6 hZ;exact cB (v:=.tuple #[.agg #[.bool p7,.slice B1 n1 e1,.slice B2 n2 e2,.bool p8,.slice B3 n3 e3,.slice B4 n4 e4],.int .i64 0]) (by simp[results,results117,go_sem,s0,s1,s2,s3,s4,s5]) rfl ⟨_,_,_,_,_,_,_,_,_,_,_,_,_,_,by rw[if_neg H0.out],λ_=>by rw[P];exact bp,bm⟩
end
end Go.Proofs.YtboghahlhmnblaaGreat
