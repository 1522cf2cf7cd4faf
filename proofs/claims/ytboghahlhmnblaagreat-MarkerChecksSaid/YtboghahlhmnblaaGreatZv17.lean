/- Lean texts of the claim. -/
import Derived.Test.YtboghahlhmnblaaGreatZv14
import Derived.Test.YtboghahlhmnblaaGreatZv13
namespace Go.Proofs.YtboghahlhmnblaaGreat
set_option linter.all false
set_option maxRecDepth 100000
set_option maxHeartbeats 0
open Go.RowKit Go.Proofs.Tryz
variable{a:List EdgeP}{b:World}{c:Nat}{e:Value}{f:Exit->Act->World->Prop}{g:Int}{h:Act->World->Prop}{i:LP}{j:Operand}{k:TypeId}{l:EdgeP}{m:Prop}{n:Act}{v x:Int}{wd:List Int}{base base':Nat}{A:Option Addr}{w:World}
theorem Avl{p q:Int×Int}{b:LP}(d:0<=v):∀k,v<=Yw p q b k↔∃i,i<k/\v<=Ey (Bs p q (gt b i)) 0
 | 0=>by simp[Yw];omega
 | k+1=>by
   rw[Yw,show (v<=max (Yw p q b k) (Ey (Bs p q (gt b k)) 0))↔(v<=Yw p q b k\/v<=Ey (Bs p q (gt b k)) 0) by omega,Avl d k];constructor
   .rintro(⟨i,a,h⟩|h)
    .exact⟨i,by omega,h⟩
    exact⟨k,by omega,h⟩
   rintro⟨i,a,h⟩;by_cases c:i=k
   .subst c;exact .inr h
   exact .inl ⟨i,by omega,h⟩
theorem Asq{a b:LP}{d nb:Nat}(e:v<=1):∀k,v<=Ki a b d nb k↔∀i,i<k->v<=Yw (gt a i) (gt a ((i+1) % d)) b nb
 | 0=>by simp[Ki];exact e
 | k+1=>by
   rw[Ki,show (v<=min (Ki a b d nb k) (Yw (gt a k) (gt a ((k+1) % d)) b nb))↔(v<=Ki a b d nb k/\v<=Yw (gt a k) (gt a ((k+1) % d)) b nb) by omega,Asq e k];constructor
   .rintro⟨f,g⟩ i j;by_cases c:i=k
    .subst c;exact g
    exact f i (by omega)
   intro h;exact⟨λi j=>h i (by omega),h k (by omega)⟩
theorem Asp{a b:LP}{na nb:Nat}:∀k,Ki a b na nb k<=1
 | 0=>by simp[Ki]
 | k+1=>by rw[Ki];have:=Asp (a:=a) (b:=b) (na:=na) (nb:=nb) k;omega
theorem Au2(a b:LP):Nv a b<=1:=by
 unfold Nv ma;have:=Asp (a:=a) (b:=b) (na:=a.length) (nb:=b.length) a.length;omega
theorem Atr{s:LP}{a:List LP}{b v:Int}:∀k,v<=U7 s a b k↔v<=b\/∃i,i<k/\v<=Nv s (lt_ a i)
 | 0=>by simp[U7]
 | k+1=>by
   rw[U7,show (v<=max (U7 s a b k) (Nv s (lt_ a k)))↔(v<=U7 s a b k\/v<=Nv s (lt_ a k)) by omega,Atr k];constructor
   .rintro((h|⟨i,d,h⟩)|h)
    .exact .inl h
    .exact .inr ⟨i,by omega,h⟩
    exact .inr ⟨k,by omega,h⟩
   rintro(h|⟨i,d,h⟩)
   .exact .inl (.inl h)
   by_cases c:i=k
   .subst c;exact .inr h
   exact .inl (.inr ⟨i,by omega,h⟩)
theorem Ash{d b:List LP}(f:0<=v):∀k,v<=M6 d b k↔∃i,i<k/\∃j,j<b.length/\v<=Nv (lt_ d i) (lt_ b j)
 | 0=>by simp[M6];omega
 | k+1=>by
   rw[M6,Atr,Ash f k];constructor
   .rintro(⟨i,e,j,a,h⟩|⟨j,a,h⟩)
    .exact⟨i,by omega,j,a,h⟩
    exact⟨k,by omega,j,a,h⟩
   rintro⟨i,e,j,a,h⟩;by_cases c:i=k
   .subst c;exact .inr ⟨j,a,h⟩
   exact .inl ⟨i,by omega,j,a,h⟩
section
namespace Ears
theorem Aw3(k:List P):∀x,ch x k=(List.range k.length).map (λi=>(gt (x::k) i,gt k i)):=by
 induction k with
 | nil=>intro x;rfl
 | cons y k ih =>
   intro x;rw[ch,ih y,dP,List.range_succ_eq_map,eV,List.map_map];rw[Q3,Q3]
   congr 1
theorem Ax9{l:List P}(b:0<l.length):E l=(List.range l.length).map (λi=>(gt l i,gt l ((i+1) % l.length))):=by
 cases l with
 | nil=>simp at b
 | cons x k =>
   simp only[E];rw[Aw3];rw[show (k++[x]).length=(x::k).length by simp];apply List.map_congr_left;intro i a;have a:i<(x::k).length:=by simpa using a
   congr 1
   .rw[<-cV,Aqz a]
   simp only[dP]at a ⊢;by_cases c:i<k.length
   .rw[Aqz c,cC aK,Aqy]
   have:i=k.length:=aK
   rw[this,Aq1,Nat.sub_self,Nat.mod_self,Q3,Q3]
theorem Aug{x y:Int}(a: -1048576<=x:=by omega)(b:x<=1048576:=by omega)(c: -1048576<=y:=by omega)(d:y<=1048576:=by omega): -1099511627776<=x*y/\x*y<=1099511627776:=by
 have h:=cJ (show x.natAbs<=1048576 by omega) (show y.natAbs<=1048576 by omega);rw[<-Int.natAbs_mul]at h;generalize x*y=z at h ⊢;omega
theorem Asx{l:List P}(b:∀q∈l,Du 1048576 q)(c:l.length<=45):∀k,k<=l.length->F4 l l.length k=sm ((List.range k).map λi=>(gt l i,gt l ((i+1) % l.length))) /\ -(k:Int)*2199023255552<=F4 l l.length k/\F4 l l.length k<=(k:Int)*2199023255552
 | 0,_=>by simp[F4,sm]
 | k+1,hk=>by
   let⟨ih,f,g⟩:=Asx b c k (by omega);have d:=b _ (fo (l:=l) (i:=k) (by omega));have e:=b _ (fo (l:=l) (i:=(k+1) % l.length) (bE _ (by omega)));unfold Du at d e;have j:=Aug (x:=(gt l k).1) (y:=(gt l ((k+1) % l.length)).2);have m:=Aug (x:=(gt l k).2) (y:=(gt l ((k+1) % l.length)).1);rw[F4,fB,List.map_append,Aq7,<-ih,eV,fO,Aq6,Atb];unfold vx;simp only;generalize (gt l k).1*(gt l ((k+1) % l.length)).2=u at *
   generalize (gt l k).2*(gt l ((k+1) % l.length)).1=v at *
   generalize F4 l l.length k=a at *
   have h:(k:Int)<=45:=by omega
   rw[show wrap64 u=u by unfold wrap64;omega,show wrap64 v=v by unfold wrap64;omega,show wrap64 (u-v)=u-v by unfold wrap64;omega,show wrap64 (a+(u-v))=a+(u-v) by unfold wrap64;omega];refine⟨by omega,by omega,by omega⟩
theorem area_ar{l:List P}(b:∀q∈l,Du 1048576 q)(a:0<l.length:=by omega)(c:l.length<=45:=by omega):F4 l l.length l.length=ar l:=by
 rw[(Asx b c l.length aA).1];unfold ar;rw[Ax9 a]
theorem Ayr(f:P->P)(k:List P):∀x,ch (f x) (k.map f)=(ch x k).map (λe=>(f e.1,f e.2)):=by
 induction k with
 | nil=>intro x;rfl
 | cons y k ih=>intro x;simp only[eV,ch,ih y]
theorem Ay2(f:P->P)(l:List P):E (l.map f)=(E l).map (λe=>(f e.1,f e.2)):=by
 cases l with
 | nil=>rfl
 | cons x k =>
   simp only[eV,E];rw[<-Ayr,List.map_append];rfl
theorem Av7(l:List P):ar (l.map shr)=4194304*ar l:=by
 unfold ar;rw[Ay2];generalize E l=L;induction L with
 | nil=>rfl
 | cons e L ih =>
   rw[eV,Aq6,Aq6,ih];have:vx (shr e.1,shr e.2)=4194304*vx e:=by unfold vx shr;grind
   omega
theorem Aut{l:List P}(b:3<=l.length)(d:c<l.length):∃m,
 (l.drop c).map shr++(l.take c).map shr=shr (gt l c)::shr (gt l ((c+1) % l.length))::(m++[shr (gt l ((c+l.length-1) % l.length))])/\l.map shr=(l.take c).map shr++(l.drop c).map shr:=by
 let⟨m,a,e⟩:=Avu b d;refine⟨m.map shr,?_,by rw[<-List.map_append,fD]⟩;rw[<-List.map_append,a];simp
theorem Aww{l:List P}{i:Nat}(h:Sim (l.map shr))(c:3<=l.length)(d:i<l.length):Aul (l.map shr) (shr (gt l i))↔cr (gt l ((i+l.length-1) % l.length)) (gt l i) (gt l ((i+1) % l.length))=0:=by
 let⟨m,a,b⟩:=Aut c d;have e:((l.drop i).map shr++(l.take i).map shr).Nodup:=Atn (by rw[<-b];exact h.nd);rw[b,Asc,a,Auj (by rw[<-a];exact e),Arj];omega
open Classical in
theorem Arr{l:List P}(h:Sim (l.map shr))(b:3<=l.length)(d:∀q∈l,Du 1048576 q):∀k,k<=l.length->Qg l l.length k=(l.take k).filter (λq=>!decide (Aul (l.map shr) (shr q)))
 | 0,_=>by simp[Qg]
 | k+1,hk=>by
   have ih:=Arr h b d k (by omega)
   have tk:l.take (k+1)=l.take k++[gt l k]:=by
    rw[List.take_add_one,aW (by omega)];unfold gt;rw[List.getD_eq_getElem?_getD,aW (by omega)];rfl
   have a:∀j,j<l.length->Du 1048576 (gt l j):=λj e=>d _ (fo e)
   have bz:Vf l l.length k=cr (gt l ((k+l.length-1) % l.length)) (gt l k) (gt l ((k+1) % l.length)):=Jt (a _ (bE _ (by omega))) (a _ (by omega)) (a _ (bE _ (by omega)));have fi:=Aww h b (i:=k) (by omega);rw[tk,List.filter_append,<-ih];rw[show Qg l l.length (k+1)=if Vf l l.length k != 0 then Qg l l.length k++[gt l k] else Qg l l.length k from rfl];by_cases c:Vf l l.length k=0
   .rw[if_neg (by rw[c];simp)];have:Aul (l.map shr) (shr (gt l k)):=fi.2 (by rw[<-bz];exact c);simp[this]
   rw[if_pos (by simpa using c)];have:¬Aul (l.map shr) (shr (gt l k)):=λg=>c (by rw[bz];exact fi.1 g)
   simp[this]
theorem corn_good{l:List P}(a:Bg l l.length=0):Sim ((Qg l l.length l.length).map shr)/\3<=(Qg l l.length l.length).length/\lam ((Qg l l.length l.length).map shr)=lam (l.map shr)/\ar (Qg l l.length l.length)=ar l/\(∀q∈Qg l l.length l.length,q∈l) /\
 Sim (l.map shr)/\∀q∈Qg l l.length l.length,¬Aul ((Qg l l.length l.length).map shr) (shr q):=by
 classical
 have d:=gv a;have c:=(El a).1
 have b:C8 l l.length=true:=by
  unfold Bg at a;split at a
  .cases a
  split at a
  .cases a
  split at a
  .cases a
  split at a
  .assumption
  cases a
 have s:=As0 d c b;have g:=Axx _ (l.map shr) (λq=>decide (Aul (l.map shr) q)) aA (by rw[List.length_map];exact c) s λq _=>by simp
 have e:(l.map shr).filter (λq=>!decide (Aul (l.map shr) q))=(Qg l l.length l.length).map shr:=by
  rw[Arr s c d l.length aA,dR,List.filter_map];rfl
 rw[e]at g;obtain⟨h,f,i,n4,j⟩:=g;rw[Av7,Av7]at n4;refine⟨h,by rw[List.length_map]at f;exact f,i,by omega,λq hq=>?_,s,λq hq=>j _ (List.mem_map.2 ⟨q,hq,rfl⟩)⟩;rw[Arr s c d l.length aA,dR]at hq;exact(List.mem_filter.1 hq).1
theorem normal_good{l:List P}(k:Bg l l.length=0):Good (Ct l l.length)/\∀q∈Ct l l.length,q∈l:=by
 let⟨s,j,a,u,b,m,_⟩:=corn_good k;have r:=gv k;have d:=El k
 have n:Sim ((Km l l.length).map shr)/\lam ((Km l l.length).map shr)=true/\3<=(Km l l.length).length/\∀q∈Km l l.length,q∈l:=by
  unfold Km;rw[area_ar r];have o:=Ayl m (by rw[List.length_map];exact d.1);rw[Av7]at o;split
  .rename_i g;rw[List.map_reverse]
   have w:lam (l.map shr)=false:=by
    cases hz:lam (l.map shr) with
    | false=>rfl
    | true=>have:=o.1 hz;omega
   refine⟨s.rev,by rw[Avs s (by rw[List.length_map];exact j),a,w];rfl,by rw[dV];exact j,λq hq=>b q (List.mem_reverse.1 hq)⟩
  rename_i g
  have p:lam (l.map shr)=true:=by
   cases hz:lam (l.map shr) with
   | true=>rfl
   | false=>have:=o.2 hz;omega
  exact⟨s,by rw[a,p],j,b⟩
 obtain⟨i,v,y,t⟩:=n;unfold Ct rot;generalize x:Fg (Km l l.length) (Km l l.length).length=f;generalize Km l l.length=c at *
 have e:c.map shr=(c.take f).map shr++(c.drop f).map shr:=by rw[<-List.map_append,fD]
 have h:∀q∈c.drop f++c.take f,q∈c:=by
  intro q hq;rcases bD.1 hq with g|g
  .exact List.mem_of_mem_drop g
  exact eY g
 have len:(c.drop f++c.take f).length=c.length:=by rw[bA,dF,bC];omega
 refine⟨⟨?_,?_,aK,λq hq=>r q (t q (h q hq))⟩,λq hq=>t q (h q hq)⟩
 .rw[List.map_append];rw[e]at i;exact i.rot
 rw[List.map_append,Aq0 _ _ (by rw[<-List.map_append,List.length_map];omega) (by rw[e]at i;exact i.rot),<-e];exact v
theorem split_ear{l:List P}(a:Bg l l.length=0):(Bb l).1=0/\(∀t∈(Bb l).2,Ayv l t)/\0<(Bb l).2.length:=by
 let⟨g,sub⟩:=normal_good a;let⟨r,b,c,d⟩:=Asl (Ct l l.length).length (Ct l l.length) [] l g aK sub aL;unfold Bb;rw[if_pos a,b];exact⟨rfl,c,by simpa using d⟩
end Ears
end
theorem Kx{F:Array Oper}{o:Oper}{E:Prop}{x:Operand}
 (N:o.op=.call { callee:=.builtin .append,args:=#[j,x],argTypes:=#[48,48] })
 (a:Nat) (v:Value) (l:LP)  (m:OwS w a v l)
 (q c:Nat) (p:Int×Int) (tb:TypeId)  (k:Bf w q tb #[p.1,p.2])
 (G:l.length<=1000000)  (H:Nat) 
 (I:∀g b e,OwS e a (.slice (some ⟨g,0,none⟩) (l.length+1) b) (l++[p])->w.grownBy e v.ownBlock->(v.ownBlock=some g\/g=H)->g<e.heap.size->h (n.put o.dst (.slice (some ⟨g,0,none⟩) (l.length+1) b)) e)  (s:o.guard=none:=by rfl) (O:n.eval j=v:=by rfl) (Q:n.eval x=.slice (some ⟨q,0,none⟩) 1 c:=by rfl) (d:a<=w.heap.size:=by simp;omega) (J:w.heap.size=H:=by simp) :
 if Region.wanted o (yielded F n.tmps)=true then Oper.wp prog o n w h f else E:=by
 let⟨i,L,A,C,D⟩:=dW Si;refine step_append_lies (P:=prog) w s j x 48 N a 65 i (.agg #[.int .i64 0,.int .i64 0]) 2 16 underlying48 L A C D rfl (by omega) v l.length (l.flatMap enS) O m ⟨q,0,none⟩ 1 c (enS p) Q (by rw[Cm]) ?_ (Io p) (by omega) (by unfold maxLen;omega) (by omega) d H J ?_
 .intro R u M;exact eI (w:=w) (B:=q) (cs:=(enS p).toArray) (t:=tb) (fr:=(0,0)) k R u (by simpa using M)
 intro g b e z K r y;refine I g b e ?_ K r y;unfold OwS OwG;rw[bA,dH];simpa using z
theorem Awr{l:LP}{k:Nat}{d:Int×Int}(h:k<l.length):Yv (l.take k) d++[(wrap64 ((gt l k).1+d.1),wrap64 ((gt l k).2+d.2))]=Yv (l.take (k+1)) d:=by
 unfold Yv;rw[cG h,List.map_append];simp[gt,h]
theorem Atg(A:Option Addr)(t n:Nat)(l:LP)(x y:Int)(R:n<=1000000)(E:SpS w A n l):Calls prog 19 #[.slice A n t,.agg #[x,y]] w (Vi w (Yv l (x,y))):=by
 have C:=Ar E.1;go_in;go_wp2;go_loopw [5,6] (λs i wr=>∃k:Nat,k<=n/\i=.int .i64 k/\OwS wr (w.heap.size+1) s (Yv (l.take k) (x,y))/\Bf wr w.heap.size 65 #[x,y]/\Be w wr) λ_ i _=>n-(intOf i).toNat
 case atStart=>exact⟨0,aB,rfl,OwG.nil,Bf.new _ _ _,blA⟩
 case round =>
  obtain⟨k,Q,rfl,g,u,j⟩:=hrel;by_cases f:k<n
  ·obtain⟨b,q,rfl,I,v⟩:=E.at_ f;have O:=Aq j (v k f).1;have P:=Aq j (v k f).2;clear v;obtain⟨G,M,-⟩:=u.pair;have K:w.heap.size<wr.heap.size:=Bi G;have m:(Yv (l.take k) (x,y)).length<=1000000:=by rw[Ld,bC];omega
   have T:(0:Int)<=(k:Int):=aK
   have U:(k:Int)<(n:Int):=aK
   have F:=Ar (Awr (l:=l) (k:=k) (d:=(x,y)) (by rw[C.out];exact f));have J:=j.size;let⟨h,p⟩:∃h,h=u5:=⟨_,rfl⟩
   rw[<-p]at g ⊢;clear p;have o:some b≠h.ownBlock:=λe=>by have:=(OwG.lt g _ e.symm).1;omega
   have c:some w.heap.size≠h.ownBlock:=λe=>by have:=(OwG.lt g _ e.symm).1;omega
   have D:b<wr.heap.size:=aK
   go_wp2
   go_region_held3 (λr=>Cq r b (q+k*2) (gt l k).1/\Cq r b (q+k*2+1) (gt l k).2/\Cq r w.heap.size 0 x/\Cq r w.heap.size 1 y) (first
    | (go_keep;done)
    | (go_split_ands
       refine⟨?_,?_,?_,?_⟩
       ·exact(a.cell_far _ aO o).trans aQ
       ·exact(a.cell_far _ aO o).trans aQ
       ·exact(a.cell_far _ aO c).trans aQ
       ·exact(a.cell_far _ aO c).trans aQ))
    ((refine Kx (by rfl) (w.heap.size+1) h (Yv (l.take k) (x,y)) (OwG.keep (OwG.alloc g _) blD) wr.heap.size 1 (IntKind.i64.wrap ((gt l k).1+x),IntKind.i64.wrap ((gt l k).2+y)) 65 (Bf.drew (Bf.new _ _ _)) m (wr.heap.size+1) ?_;intro gg N S B a H L))
   go_wp2;have z:OwS ((wr.alloc (.cells #[(IntKind.i64.wrap ((gt l k).1+x)),(IntKind.i64.wrap ((gt l k).2+y))] 65)).drew) (w.heap.size+1) h (Yv (l.take k) (x,y)):=OwG.keep (OwG.alloc g _) blD;exact aE ⟨by rw[<-F.out,<-IntWalk.i64_left,<-IntWalk.i64_left];exact B,(a.block w.heap.size ((u.alloc _).drew).lt c).trans ((u.alloc _).drew),Bk (Aw (Ao j)) (OwG.lower z aK) a⟩
  ·obtain rfl:n=k:=aK
   rw[cW (by rw[C.out];exact aA)] at g;go_wp2;go_ret;exact⟨_,rfl,OwG.lower g aK,j⟩
abbrev EdX:=ByteArray×Option Addr×Nat×Nat
def Ags(x:EdX):List Value:=[.string x.1,.slice x.2.1 x.2.2.1 x.2.2.2]
theorem St(x:EdX):(Ags x).length=2:=rfl
theorem Abh{x:EdX}:∀u∈Ags x,u.oneCell'=true:=by
 intro u a;simp[Ags]at a;rcases a with rfl|rfl<;>rfl
theorem Aj6:(prog.info? 52).map (λi=>(i.zero,i.size,i.bytes))=some (some (.agg #[.string ⟨#[]⟩,.slice none 0 0]),2,40):=aN
def OwE(w:World)(a:Nat)(v:Value)(E:List EdgeP):Prop :=
 ∃b:List EdX,OwG 52 2 Ags w a v b/\b.length=E.length/\∀(i:Nat) (x:EdX),b[i]? = some x->x.1=(edg E i).nm/\ElS w a (.slice x.2.1 x.2.2.1 x.2.2.2) (edg E i).ln/\x.2.2.2<=9223372036854775807
theorem OwE.nil:OwE w c (.slice none 0 0) []:=⟨[],OwG.nil,rfl,aL⟩
theorem OwE.keep{E:List EdgeP}(h:OwE w base e E)(d:Be w b):OwE b base e E:=by
 obtain⟨j,f,g,a⟩:=h;exact⟨j,f.keep d,g,λi x c=>⟨(a i x c).1,(a i x c).2.1.keep d,(a i x c).2.2⟩⟩
theorem Agt{E:List EdgeP}(h:c<E.length):edg (E++[l]) c=edg E c:=by
 unfold edg;rw[List.getD,List.getD,cF h]
theorem Abk{E:List EdgeP}:edg (E++[l]) E.length=l:=by
 unfold edg;simp[List.getD]
theorem OwE.eds{E:List EdgeP}(h:OwE w c e E):∃A a,e=.slice A E.length a/\E.length<=a/\a<=9223372036854775807/\EdS w A E.length E:=by
 obtain⟨d,i,b,F⟩:=h;rcases OwG.form i with⟨rfl,rfl⟩|⟨g,f,rfl,H,I,D,t⟩
 .have:E=[]:=bL (by rw[<-b];rfl);subst this;exact⟨none,0,rfl,aA,aK,rfl,.inl rfl⟩
 refine⟨_,f,by rw[<-b],by rw[<-b];exact D,by unfold maxLen at t;exact t,rfl,.inr ⟨g,0,rfl,λk G=>?_⟩⟩;have j:k<d.length:=by rw[b];exact G
 let⟨x,l⟩:∃u,d[k]? = some u:=⟨_,aW j⟩
 have m:=OwG.cells i (k*2) aK;have n:=OwG.cells i (k*2+1) aK;have r:=Bu St d k 0 x l aK;have C:=Bu St d k 1 x l aK;rw[bU]at r;rw[r]at m;rw[C]at n;obtain⟨o,⟨A,a,p,z,B,-,-⟩,q⟩:=F k x l;obtain⟨s,v,J,y⟩:=x;dsimp only at o p q;injection p with q1 q2 q3
 subst q1 q2 q3;rw[dB];exact⟨by rw[<-o];exact m,v,y,n,z,q,B⟩
theorem Tm{a1:Array Oper}{o:Oper}(V:o.guard=none){x:Operand}
 (ho:o.op=.call { callee:=.builtin .append,args:=#[j,x],argTypes:=#[46,46] })
 (a:Nat) (v:Value) (E:List EdgeP) (hs:n.eval j=v) (K:OwE w a v E)
 (M c:Nat) (nm:ByteArray) (A:Option Addr) (L z:Nat) (l:LP) (tb:TypeId) (hx:n.eval x=.slice (some ⟨M,0,none⟩) 1 c) (I:Bf w M tb #[.string nm,.slice A L z])
 (hl:ElS w a (.slice A L z) l) (T:z<=9223372036854775807)  (r:a<=w.heap.size) (H:Nat) 
 (aw:∀g b D,OwE D a (.slice (some ⟨g,0,none⟩) (E.length+1) b) (E++[⟨nm,l⟩])->w.grownBy D v.ownBlock->(v.ownBlock=some g\/g=H)->g<D.heap.size->(∀k,v.ownBlock=some k->a<=k/\k<w.heap.size)->h (n.put o.dst (.slice (some ⟨g,0,none⟩) (E.length+1) b)) D)  (a7:E.length<=1000000:=by omega) (hH:w.heap.size=H:=by simp) :
 if Region.wanted o (yielded a1 n.tmps)=true then Oper.wp prog o n w h f else m:=by
 obtain⟨F,R,G,h3⟩:=K;let⟨i,hi,X,Y,Z⟩:=dW Aj6;refine step_append_lies (P:=prog) w V j x 46 ho a 52 i (.agg #[.string ⟨#[]⟩,.slice none 0 0]) 2 40 underlying46 hi X Y Z rfl (by omega) v F.length (F.flatMap Ags) hs R ⟨M,0,none⟩ 1 c (Ags (nm,A,L,z)) hx (by rw[St]) ?_ (Abh) (by omega) (by unfold maxLen;omega) (by omega) r H hH ?_
 .intro C u hj;exact eI (w:=w) (B:=M) (cs:=(Ags (nm,A,L,z)).toArray) (t:=tb) (fr:=(0,0)) I C u (by simpa using hj)
 intro g b D J U S W;rw[G]at J;rw[G];refine aw g b D ⟨F++[(nm,A,L,z)],?_,by simp[G],λC y s=>?_⟩ U S W R.lt
 .unfold OwG;rw[bA,dH,G];simpa using J
 have p:∀k N Q,a<=k->w.heap[k]? = some (.cells N 65 Q)->some k≠v.ownBlock:=by
  intro k N Q _ hh e;rcases R.2 with⟨O,_⟩|⟨g',a6,a8,O,_,d,_⟩
  .rw[O]at e;simp[Value.ownBlock]at e
  rw[O]at e;have:k=g':=by simpa[Value.ownBlock] using e
  subst this;rw[hh]at d;injection d with d
  injection d with _ ht
  exact absurd ht (by decide)
 rcases bG C F.length with q|q
 .rw[cF q]at s;rw[Agt (by omega)];let⟨e1,e2,e3⟩:=h3 C y s;exact⟨e1,e2.grown U p,e3⟩
 rcases bG C (F.length+1) with q2|q2
 .obtain rfl:C=F.length:=by omega
  rw[cI aA,Nat.sub_self]at s;simp at s;subst s;rw[G,Abk];exact⟨rfl,hl.grown U p,T⟩
 rw[bI (by simp;omega)]at s;cases s
theorem OwE.lower{E:List EdgeP}(h:OwE w c e E)(d:base'<=c):OwE w base' e E:=by
 obtain⟨j,f,g,a⟩:=h;exact⟨j,f.lower d,g,λi x b=>⟨(a i x b).1,(a i x b).2.1.lower d,(a i x b).2.2⟩⟩
theorem OwE.keepAbove{w w':World}{E:List EdgeP}(h:OwE w c e E)(f:∀k,c<=k->w'.heap[k]? = w.heap[k]?):OwE w' c e E:=by
 obtain⟨l,g,j,a⟩:=h;exact⟨l,g.keepAbove λk b _=>f k b,j,λi x d=>⟨(a i x d).1,(a i x d).2.1.keepAbove λk m n b _=>f k b,(a i x d).2.2⟩⟩
theorem OwE.edsA{a:Nat}{E:List EdgeP}(h:OwE w c (.slice A E.length a) E):EdS w A E.length E:=by
 obtain⟨d,f,e,-,-,b⟩:=h.eds;injection e with e1
 rw[e1];exact b
def Xk(w:World)(r:List EdgeP×Int)(e:Ending)(a:World):Prop:=∃A c,e=.returned (.tuple #[.slice A r.1.length c,r.2])/\(r.1.length<=c/\OwE a w (.slice A r.1.length c) r.1)/\c<=9223372036854775807/\EdS a A r.1.length r.1/\Be w a
theorem Xk.none_(a:Be w b):Xk w ([],x) (.returned (.tuple #[.slice none 0 0,x])) b:=⟨none,0,rfl,⟨aA,OwE.nil⟩,aK,⟨rfl,.inl rfl⟩,a⟩
theorem pc7{b a d g f h:Value}(H:Bf w c k #[e,b,a,d,g,f,h]):Cq w c 0 e/\Cq w c 1 b/\Cq w c 2 a/\Cq w c 3 d/\Cq w c 4 g/\Cq w c 5 f/\Cq w c 6 h:=⟨(H.cell 0).trans rfl,(H.cell 1).trans rfl,(H.cell 2).trans rfl,(H.cell 3).trans rfl,(H.cell 4).trans rfl,(H.cell 5).trans rfl,(H.cell 6).trans rfl⟩
theorem Js(p:PieceP)(m:Int):∀k,(Fl p m k).length=k
 | 0=>rfl
 | k+1=>by rw[Fl,bA,Js p m k];rfl
theorem Ah1{b:Int}(h:wI g b=true): -b<=g/\g<=b:=by unfold wI at h;simpa using h
theorem Zn{cr:LP}(h:0<cr.length)(a : -100<=g)(b:g<=100)(d:∀i,i<cr.length -> -1000<=(gt cr i).1/\(gt cr i).1<=1000 /\ -1000<=(gt cr i).2/\(gt cr i).2<=1000):Af9 (Iq cr g c):=by
 let⟨j,k,l,m⟩:=d _ (bE c h);have e:=Yt a b j k;have f:=Yt a b l m;exact⟨e.1,e.2,f.1,f.2⟩
theorem Ah0{q:Int×Int}(h:wS q 1000=true): -1000<=q.1/\q.1<=1000 /\ -1000<=q.2/\q.2<=1000:=by
 unfold wS wI at h;simp at h;omega
theorem Fe{b:Value}(h:Bf w c k #[e,b]):Cq w c 0 e/\Cq w c 1 b:=⟨(h.cell 0).trans rfl,(h.cell 1).trans rfl⟩
theorem Apr(vs:Array Value)(p:PieceP)(m:Int)(w:World)(hv:PcV w vs p)(h:wI m 100=true)(G:p.cr.length=p.ed.length):Calls prog 88 #[.agg vs,m] w (Xk w (Ch p m)):=by
 have HG:=Ar (show Ch p m=if Bp (λi=>!wS (gt p.cr i) 1000) p.cr.length then ([],3) else if C7 p.ed≠0 then ([],C7 p.ed) else if C7 (Ej p m)≠0 then ([],C7 (Ej p m)) else (Ej p m,0) by
  unfold Ch;rw[if_neg (by rw[h];simp),if_neg (by simpa using G)])
 let⟨b5,b6⟩:=Ah1 h;have HW:=Ar h;have ec:=Ar G;clear h G;obtain⟨A1,c1,A2,c2,A3,c3,A4,c4,rfl,⟨v1,v2,v3⟩,⟨v4,v5,v6⟩,⟨v7,v8,v9⟩,⟨h9,ha,hd⟩⟩:=hv;go_enter func88,ntmps88;go_upto_region 1 with fail;refine Bq λX A hP=>?_
 let⟨p0,p1,p2,p3,p4,p5,p6⟩:=pc7 hP;have G:=ec.out;let⟨g,I⟩:=gN p.ed.length
 rw[G]at p4 v7 v9 HG;rw[I]at p1 p4 v1 v3 v7 v9 HG hP;rw[G,I]at hP;have J:=Ar (show p.cr.length=g by rw[G,I]);have a1:=Ar I;clear G I;let⟨cr,b3⟩:=gN p.cr
 rw[b3]at v9 HG J;have e7:=Ar b3;clear b3;have aw:=hP;have b8:=v9.keep A;have R:=v3.keep A
 go_upto_region 6 with (go_at_call 131;refine rR (D7 m 100 _ aK aK) λw1 bt=>?_;rw[HW.out];let⟨q0,q1,q2,q3,q4,q5,q6⟩:=pc7 (aw.keep bt))
 go_loopw [7,27] (λ_ i wr=>∃k:Nat,k<=g/\i=k/\Hid (Bp (λi=>!wS (gt cr i) 1000) k=false)/\Be X wr) λ_ i _=>g-(intOf i).toNat
 case atStart=>exact⟨0,aB,rfl,Ar (Bp.zero _),bt⟩
 clear q0 q1 q2 q3 q4 q5 q6 p0 p1 p2 p3 p4 p5 p6;obtain⟨k,hk,rfl,hz,t⟩:=hrel;by_cases z:k<g
 .obtain⟨b0,fv,rfl,la,hc⟩:=(b8.keep t).at_ z;let⟨e1,e2⟩:=hc k z;have HS:=Ar (show wS (gt cr k) 1000=(wI (gt cr k).1 1000&&wI (gt cr k).2 1000) from rfl);let⟨x,hx⟩:=gN ((gt cr k).1)
  let⟨y,hy⟩:=gN ((gt cr k).2)
  rw[hx]at e1 HS;rw[hy]at e2 HS;clear hc hx hy;have U:=Ar (λ(hf:wS (gt cr k) 1000=false)=>show Ch p m=([],3) by rw[HG.out,if_pos (Bp.yes (f:=λi=>!wS (gt cr i) 1000) z (by rw[hf];rfl))]);let⟨bx,b2⟩:=gN (wI x 1000)
  let⟨bY,d⟩:=gN (wI y 1000)
  rw[b2,d]at HS;have HX:=Ar b2;have HY:=Ar d;clear b2 d;cases bx with
  | false =>
    have HF:=Ar (U.out HS.out)
    go_wp2_with (go_at_call 131;refine rR (D7 x 1000 _ aK aK) λr c=>?_;rw[HX.out])
    go_ret2
    rw[HF.out];exact Xk.none_ (An A (An (Ao t) c))
  | true =>
    cases bY with
    | false =>
      have HF:=Ar (U.out HS.out);go_upto_region 8 with fail;refine Bq λY d O=>?_
      let⟨z0,z1⟩:=Fe O
      go_wp2_with (first
       | (go_at_call 131;have hz:=c;refine rR (D7 y 1000 _ aK aK) λw3 o=>?_;rw[HY.out])
       | (go_at_call 131;refine(D7 x 1000 _ aK aK).mono ?_;rintro e r ⟨rfl,c⟩;rw[HX.out];have hr:=Aq c z1))
      go_ret2
      rw[HF.out];exact Xk.none_ (An A (An (An (An t d) c) o))
    | true =>
      have HP:=Bp.succ (f:=λi=>!wS (gt cr i) 1000) hz.out (by rw[HS.out];rfl);go_upto_region 8 with fail;refine Bq λY d O=>?_
      let⟨z0,z1⟩:=Fe O
      go_wp2_with (first
       | (go_at_call 131;have hz:=c;refine rR (D7 y 1000 _ aK aK) λw3 o=>?_;rw[HY.out])
       | (go_at_call 131;refine(D7 x 1000 _ aK aK).mono ?_;rintro e r ⟨rfl,c⟩;rw[HX.out];have hr:=Aq c z1))
      exact aE ⟨Ar HP,An (An (An t d) c) o⟩
 obtain rfl:g=k:=aK
 have C:=Ar (show Ch p m=if C7 p.ed≠0 then ([],C7 p.ed) else if C7 (Ej p m)≠0 then ([],C7 (Ej p m)) else (Ej p m,0) by rw[HG.out,if_neg (by rw[hz.out];simp)])
 have a7:=Ar (show ∀i,i<g -> -1000<=(gt cr i).1/\(gt cr i).1<=1000 /\ -1000<=(gt cr i).2/\(gt cr i).2<=1000 from λi hi=>by
  cases hw:wS (gt cr i) 1000 with
  | true=>exact Ah0 hw
  | false=>exact absurd (Bp.yes (f:=λi=>!wS (gt cr i) 1000) hi (by rw[hw];rfl)) (by rw[hz.out];simp))
 clear HG hz;let⟨q0,q1,q2,q3,q4,q5,q6⟩:=pc7 (aw.keep t);let⟨eo,u⟩:=gN (C7 p.ed)
 have K:=Ar u;rw[u]at C;clear u;by_cases h0:eo=0
 .subst h0;have M:=Ar (show Ch p m=if C7 (Ej p m)≠0 then ([],C7 (Ej p m)) else (Ej p m,0) by rw[C.out,if_neg aL]);have a6:=Ar (D5 K.out)
  have k0:g<=16/\2<=g:=by
   have:=a6.out;rw[a1.out]at this;omega
  clear C
  go_upto_region 17 with (go_at_call 132;refine rR (Gs A1 c1 g p.ed v1 (R.keep t)) λw3 o=>?_;rw[K.out];let⟨t0,t1,t2,t3,t4,t5,t6⟩:=pc7 ((aw.keep t).keep o))
  clear q0 q1 q2 q3 q4 q5 q6;have b1:=An t o;have hj:=b8.keep b1;have hh:=R.keep b1;have au:∀(k:Nat) (r:World),k<=1000->Be w3 r->Calls prog 133 #[.agg #[.slice A3 g c3,m],(k:Int)] r (Bz r (.agg #[(Iq cr m k).1,(Iq cr m k).2])):=λk r hk c=>rq A3 c3 g k cr m r (hj.keep c) aK aK hk b5 b6 a7.out
  have S:=Ar (show ∀k,Af9 (Iq cr m k) from λk=>Zn (by rw[J.out];omega) b5 b6 (by rw[J.out];exact a7.out));have ee:=Ar (show ∀k,k<g->plW (edg p.ed k).ln (edg p.ed k).ln.length=0 from λk hk=>(a6.out.2.2.1 k (by rw[a1.out];exact hk)).2);have e9:=Ar (show ∀k,Fl p m (k+1)=Fl p m k++[⟨(edg p.ed k).nm,He (edg p.ed k).ln (Iq cr m k) (Iq cr m (k+1))⟩] from λk=>by rw[Fl,e7.out]);have bl:=Ar (Js p m);have V:=An A b1;clear b5 b6 a7 J t o b8 R v9 v3 v6 hd v4 v5 h9 ha;go_loopw [10,11,12,56] (λv _ _ i wr=>∃k:Nat,k<=g/\i=.int .i64 k/\OwE wr w3 v (Fl p m k)/\Be w3 wr) λ_ _ _ i _=>g-(intOf i).toNat
  case atStart=>exact⟨0,aB,rfl,OwE.nil,bl0⟩
  clear t0 t1 t2 t3 t4 t5 t6;obtain⟨k,hk,rfl,Z,t⟩:=hrel;by_cases z:k<g
  .obtain⟨b0,fv,rfl,hc⟩:=(hh.keep t).at_ z;let⟨e1,Al,cl,e2,g1,g2,g3⟩:=hc k z;have Q:=ee.out k z;have B:=e9.out k;have H:=bl.out k;let⟨l,G⟩:=gN ((edg p.ed k).ln)
   let⟨nm,cg⟩:=gN ((edg p.ed k).nm)
   rw[G]at e2 g1 g3 Q B;rw[cg]at e1 B;let⟨nl,cf⟩:=gN l.length
   rw[cf]at e2 g1 g3 Q;have a8:=S.out k;have ad:=S.out (k+1);let⟨⟨cx,cy⟩,c6⟩:∃q,Iq cr m k=q:=⟨_,rfl⟩
   let⟨⟨dx,dy⟩,c9⟩:∃q,Iq cr m (k+1)=q:=⟨_,rfl⟩
   have ak:=λr h2=>au k r aK h2
   have N:=λr h2=>au (k+1) r aK h2
   rw[c6]at ak B a8;rw[c9]at N B ad;have HM:=Ar B;have bs:∀r:World,Be wr r->Calls prog 134 #[.slice Al nl cl,.agg #[cx,cy],.agg #[dx,dy]] r (Vi r (He l (cx,cy) (dx,dy))):=λr c=>fp Al cl nl l (cx,cy) (dx,dy) r (g3.keep c) Q a8 ad
   let⟨L2,bq⟩:=gN (He l (cx,cy) (dx,dy))
   rw[bq]at bs HM;dsimp only at ak N;rw[show ((k+1:Nat):Int)=(k:Int)+1 by omega]at N;have W1:IntKind.i64.wrap ((k:Int)+1)=(k:Int)+1:=aD
   let⟨E0,bp⟩:=gN (Fl p m k)
   rw[bp]at Z H HM;have j8:E0.length<=1000:=aK
   have ix:=Ar H;clear H;let⟨sv,ck⟩:∃sv,sv=u10:=⟨_,rfl⟩
   rw[<-ck]at Z ⊢;clear ck hc G cg cf c6 c9 B bq bp a8 ad Q au;go_upto_region 19 with fail;refine Bq λY d O=>?_
   have ey:=Z.keep d;have a:=Aw (aV Y Y);have j:=An t d;have lg:=t.size;have k1:=d.size;have jr:=O.lt;have cd:some wr.heap.size≠sv.ownBlock:=λe=>by obtain⟨xs,h1,-⟩:=Z;have:=(OwG.lt h1 _ e.symm).2;omega
   go_region_held3 (sB λW h=>Fe (O.keep h))
    (first
     | with_reducible exact Fe (O.keep a)
     | with_reducible exact Fe (O.keep (Ao a))
     | with_reducible exact Fe ((O.keep (Ao a)).grown cb cd))
    ((first
      | (refine Tm rfl rfl w3 sv E0 rfl (OwE.keep ey (Ao a)) w8 1 nm A8 L2.length c8 L2 52 rfl (Bf.new _ _ _) ((ca.keep blA).lower b4) fr (Ao (An j a)).size (w8+1) ?_;intro g9 j3 w9 fs cb j7 j9 cj)
      | (go_at_call 134;refine aF (bs _ (An d a)) λw8 v8 b7 fc=>?_;obtain⟨A8,c8,rfl,-⟩:=OwG.form2 b7;have ca:=OwS.els b7;have b4:=bB j.size a.size;have fr:c8<=9223372036854775807:=(by obtain⟨A',c',e',-,q',-⟩:=OwG.form2 b7;injection e' with e1 e2 e3;rw[e3];unfold maxLen at q';exact q');replace a:=An a fc)
      | (go_at_call 133;(with_reducible refine(N _ (An j a)).mono ?_);rintro e w7 ⟨rfl,fb⟩;replace a:=An a fb)
      | (go_at_call 133;(with_reducible refine(ak _ (An j a)).mono ?_);rintro e w6 ⟨rfl,fa⟩;replace a:=An a fa)))
   all_goals clear W1
   all_goals go_wp2_with fail
   exact aE ⟨by rw[HM.out];exact fs,dS (Ao (An j a)) cb (Ao (An j a)).size λq hq=>(cj q hq).1⟩
  obtain rfl:g=k:=aK
  have bd:=Ar (show Ej p m=Fl p m g by unfold Ej;rw[a1.out]);have P:=bl.out g;let⟨E,hE⟩:=gN (Fl p m g)
  rw[hE]at Z bd P;rw[bd.out]at M;obtain⟨A5,c5,rfl,i1,i2,i3⟩:=Z.eds;have HO:=Ar Z;rw[P]at i1 i3 ⊢;have D:=Ar P;let⟨eo,u⟩:=gN (C7 E)
  have T:=Ar u;rw[u]at M;have bu:=An V t;clear hE u P Z a6 K;by_cases h5:eo=0
  .subst h5;have U:=Ar (show Ch p m=(E,0) by rw[M.out,if_neg aL])
   go_wp2_with (go_at_call 132;refine rR (Gs A5 c5 g E i1 i3) λw5 F=>?_;rw[T.out])
   go_ret2
   rw[U.out];refine⟨A5,c5,?_,?_,i2,?_,An bu F⟩
   .rw[show ((E,(0:Int)).1).length=g from D.out];rfl
   .refine⟨by rw[show ((E,(0:Int)).1).length=g from D.out];exact i1,(HO.out.keep F).lower V.size⟩
   rw[show ((E,(0:Int)).1).length=g from D.out];exact i3.keep F
  have U:=Ar (show Ch p m=([],eo) by rw[M.out,if_pos h5]);have l6:(eo != 0)=true:=by simpa using h5
  clear h5
  go_wp2_with (go_at_call 132;refine rR (Gs A5 c5 g E i1 i3) λw5 F=>?_;rw[T.out])
  go_ret2
  rw[U.out];exact Xk.none_ (An bu F)
 have U:=Ar (show Ch p m=([],eo) by rw[C.out,if_pos h0]);have l4:(eo != 0)=true:=by simpa using h0
 clear h0 C
 go_wp2_with (go_at_call 132;refine rR (Gs A1 c1 g p.ed v1 (R.keep t)) λw3 o=>?_;rw[K.out])
 go_ret2
 rw[U.out];exact Xk.none_ (An A (An t o))
structure SgR where
 a:Int×Int
 b:Int×Int
 w:Int
 s:Int×Int
def sgV(sg:Int)(p q:Int×Int)(c:Int):SgR:=⟨p,q,c,(sg*F8 (c*(q.2-p.2)) (Ca (sqd p q)),-sg*F8 (c*(q.1-p.1)) (Ca (sqd p q)))⟩
def sgR(E:List EdgeP)(a:List Int)(sg:Int)(i j:Nat):SgR:=sgV sg (gt (edg E i).ln j) (gt (edg E i).ln (j+1)) (gi a i)
def Nb(E:List EdgeP)(a:List Int)(sg:Int):Nat->List SgR
 | 0=>[]
 | i+1=>Nb E a sg i++(List.range ((edg E i).ln.length-1)).map (sgR E a sg i)
def gsr(l:List SgR)(k:Nat):SgR:=l.getD k ⟨(0,0),(0,0),0,(0,0)⟩
theorem K5(E:List EdgeP)(a:List Int)(sg:Int)(k:Nat):(Nb E a sg k).length=(Cn E k).length:=by
 induction k with
 | zero=>rfl
 | succ k ih=>rw[Nb,Cn,bA,bA,ih,Jv,List.length_map,List.length_range]
theorem Age(h:c+1<i.length):gt (ux i) c=gt i c:=by
 unfold ux gt;rw[List.getD,List.getD,fN,if_pos aK]
theorem Tf{E:List EdgeP}{i j:Nat}(c:j+1<(edg E i).ln.length):∀k,i<k->gt (Cn E k) ((Cn E i).length+j)=gt (edg E i).ln j/\(Cn E i).length+j<(Cn E k).length:=by
 intro k;induction k with
 | zero=>intro h;omega
 | succ k ih =>
   intro h;rw[Cn];rcases bG i k with g|g
   .obtain⟨a,b⟩:=ih g;refine⟨?_,by rw[bA];omega⟩;rw[<-a];unfold gt;simp[List.getD,cF b]
   obtain rfl:i=k:=aK
   refine⟨?_,by rw[bA,Jv];omega⟩;rw[<-Age c];unfold gt;simp[List.getD,cI]
theorem Ah2{E:List EdgeP}{sg:Int}:∀k t,t<(Cn E k).length->∃i j,i<k/\j+1<(edg E i).ln.length/\t=(Cn E i).length+j/\gi (Ek E wd k) t=gi wd i/\gsr (Nb E wd sg k) t=sgR E wd sg i j:=by
 intro k;induction k with
 | zero=>intro t h;simp[Cn]at h
 | succ k ih =>
   intro t h;rw[Cn,bA,Jv]at h;rw[Ek,Nb];rcases bG t (Cn E k).length with g|g
   .obtain⟨i,j,e,a,b,c,d⟩:=ih t g;refine⟨i,j,aK,a,b,?_,?_⟩
    .rw[<-c];unfold gi;simp[List.getD,cF (show t<(Ek E wd k).length by rw[Gt];exact g)]
    rw[<-d];unfold gsr;simp[List.getD,cF (show t<(Nb E wd sg k).length by rw[K5];exact g)]
   refine⟨k,t-(Cn E k).length,aK,aK,aK,?_,?_⟩
   .unfold gi;simp[List.getD,cI (show (Ek E wd k).length<=t by rw[Gt];exact g),Gt,fA,show t-(Cn E k).length<(edg E k).ln.length-1 by omega]
   unfold gsr;simp[List.getD,cI (show (Nb E wd sg k).length<=t by rw[K5];exact g),K5,fH (show t-(Cn E k).length<(edg E k).ln.length-1 by omega)]
theorem Aeo{E:List EdgeP}(h:C7 E=0){j:Nat}(b:c<E.length)(m:j+1<(edg E c).ln.length):gt (Bj E) (((Cn E c).length+j+1) % (Bj E).length)=gt (edg E c).ln (j+1):=by
 obtain⟨q,-,o,p,-⟩:=D5 h;have d:∀k,k<E.length->2<=(edg E k).ln.length:=λk n=>(Er (o k n).2).1
 have r:=Tf m E.length b;unfold Bj;rcases bG (j+2) (edg E c).ln.length with g|g
 .have:=Tf (E:=E) (i:=c) (j:=j+1) g E.length b;rw[cQ,cC this.2];exact this.1
 have l:j+1=(edg E c).ln.length-1:=aK
 have i:(Cn E c).length+j+1=(Cn E (c+1)).length:=by rw[Cn,bA,Jv];omega
 have hq:J2 E c=false:=Bool.eq_false_iff.2 λhq=>absurd (Bp.yes (f:=J2 E) b hq) (by rw[p];simp)
 unfold J2 at hq;have hq:gt (edg E c).ln ((edg E c).ln.length-1)=gt (edg E ((c+1) % E.length)).ln 0:=(Ge _ _).1 (by simpa using hq);rw[i,l,hq];rcases bG (c+1) E.length with a|a
 .have:=Tf (E:=E) (i:=c+1) (j:=0) (by have:=d (c+1) a;omega) E.length a;rw[cC a,<-this.1,cC (by have:=this.2;omega)];rfl
 have e:c+1=E.length:=aK
 have:=Tf (E:=E) (i:=0) (j:=0) (by have:=d 0 aK;omega) E.length aK;rw[e,Nat.mod_self,Nat.mod_self,<-this.1];rfl
theorem Yf{b:Int}(a:0<b):F8 (-g) b = -F8 g b:=by
 unfold F8;rcases Int.lt_trichotomy g 0 with h|h|h
 .rw[if_neg aK,if_pos h];omega
 .subst h;have:b / (2*b)=0:=Int.ediv_eq_zero_of_lt aK aK;simp[this]
 rw[if_pos aK,if_neg aK,Int.neg_neg]
theorem Al4{E:List EdgeP}{sg:Int}(h:C7 E=0)(n:sg=1\/sg = -1)(o:c<(Bj E).length)
 (a:0<Ca (sqd (gt (Bj E) c) (gt (Bj E) ((c+1) % (Bj E).length)))) :
 gsr (Nb E wd sg E.length) c=⟨gt (Bj E) c,gt (Bj E) ((c+1) % (Bj E).length),gi (Hl E wd) c,shP (Bj E) sg (Hl E wd) c⟩:=by
 let⟨i,j,d,e,k,l,m⟩:=Ah2 (E:=E) (wd:=wd) (sg:=sg) E.length c o;have f:=(Tf e E.length d).1;have g:=Aeo h d e;have b:gi (Hl E wd) c=gi wd i:=l;rw[m,b];unfold shP sgR;rw[b];subst k;rw[g]at a ⊢;unfold Bj at a ⊢;rw[f]at a ⊢;unfold sgV;rcases n with rfl|rfl
 .simp only[fZ,Int.neg_one_mul,<-Int.neg_mul,Yf (show (0:Int)<(Ca (sqd (gt (edg E i).ln j) (gt (edg E i).ln (j+1))):Int) by omega),Int.neg_mul]
 simp only[Int.neg_one_mul,Int.neg_neg,fZ,Yf (show (0:Int)<(Ca (sqd (gt (edg E i).ln j) (gt (edg E i).ln (j+1))):Int) by omega),Int.neg_mul]
theorem df{a b:LP}:∀k,k<=b.length->Cw i (a++b) (a.length+k)=Cw (Cw i a a.length) b k:=by
 have c:∀k,k<=a.length->Cw i (a++b) k=Cw i a k:=by
  intro k;induction k with
  | zero=>intro _;rfl
  | succ k ih =>
    intro h;rw[Cw,Cw,ih aK]
    congr 1
    unfold gt;simp[List.getD,cF (show k<a.length by omega)]
 intro k;induction k with
 | zero=>intro _;exact c _ aA
 | succ k ih =>
   intro h;rw[<-cQ,Cw,Cw,ih aK]
   congr 1
   unfold gt;simp[List.getD,cI]
def ia(V a:LP)(D:List Int):Nat->LP
 | 0=>[]
 | i+1=>ia V a D i++Wy V a D i
theorem mc(V a:LP)(D:List Int):∀k,K7 V a D k=Cw [] (ia V a D k) (ia V a D k).length
 | 0=>rfl
 | k+1=>by rw[K7,mc V a D k,ia,bA,df _ aA]
end Go.Proofs.YtboghahlhmnblaaGreat
