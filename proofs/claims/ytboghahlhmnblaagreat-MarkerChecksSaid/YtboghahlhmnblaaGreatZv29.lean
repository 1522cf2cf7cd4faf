/- Lean texts of the claim. -/
import Derived.Test.YtboghahlhmnblaaGreatZv21
import Derived.Test.YtboghahlhmnblaaGreatZv24
import Derived.BigRegion
namespace Go.Proofs.YtboghahlhmnblaaGreat
set_option linter.all false
set_option maxRecDepth 100000
set_option maxHeartbeats 0
open Go.RowKit Go.Proofs.Tryz
variable{a:World}{b g k m:Nat}{c:List (Int×Int)}{e:Option Addr}{f l:Int}{h:List (List (Int×Int))}{i:Int×Int}{j:Value}{x:Int}{q:List (Int×Int)}{n nb:Nat}{B:Option Addr}{w:World}
def Au8(p q:Int×Int)(l:List (Int×Int))(n:Nat):Bool:=Ix (λi=>decide (Ey (Bs p q (gt l i)) 0<=0)) n
def Awd(p l:List (Int×Int)):Bool:=Bp (λi=>Au8 (gt p i) (gt p ((i+1) % p.length)) l l.length) p.length
def Au7(p q:List (Int×Int)):Bool:=!Awd p q&&!Awd q p
def Ayc(a b:List (List (Int×Int))):Bool:=Bp (λi=>Bp (λk=>Au7 (lt_ a i) (lt_ b k)) b.length) a.length
theorem Av5{q:Int×Int}:Au8 i q c b=false↔1<=Yw i q c b:=by
 rw[Avl aK,<-gE];unfold Au8;rw[Ix.iff];constructor
 .intro h;apply bT;intro f;apply h;intro d a;apply bV;apply bT;intro e;exact f ⟨d,a,aK⟩
 rintro⟨d,a,h⟩ e;have:=of_decide_eq_true (e d a);omega
theorem Awa{l:List (Int×Int)}:Awd c l=false↔1<=ma c l:=by
 unfold ma;rw[Asq aK,<-gE];unfold Awd;rw[Bp.iff];constructor
 .intro h i a;apply Av5.1;cases hb:Au8 (gt c i) (gt c ((i+1) % c.length)) l l.length with
  | false=>rfl
  | true=>exact absurd ⟨i,a,hb⟩ h
 rintro h ⟨i,a,b⟩;rw[Av5.2 (h i a)]at b;cases b
theorem Avn:Au7 c q=true↔1<=Nv c q:=by
 unfold Au7 Nv;rw[Bool.and_eq_true,Bool.not_eq_true',Bool.not_eq_true',Awa,Awa];omega
theorem Axk{b:List (List (Int×Int))}:Ayc h b=true↔1<=M6 h b h.length:=by
 rw[Ash aK];unfold Ayc;rw[Bp.iff];constructor
 .rintro⟨i,c,a⟩;let⟨k,d,a⟩:=Bp.iff.1 a;exact⟨i,c,k,d,Avn.1 a⟩
 rintro⟨i,c,k,d,a⟩;exact⟨i,c,Bp.iff.2 ⟨k,d,Avn.2 a⟩⟩
theorem Aw1{ss ts:List (List (Int×Int))}:M6 ss ts ss.length<=1:=by
 rcases Int.lt_or_le 1 (M6 ss ts ss.length) with h|h
 .obtain⟨i,_,j,_,g⟩:=(Ash (v:=2) aK _).1 (show 2<=M6 ss ts ss.length by omega);have:=Au2 (lt_ ss i) (lt_ ts j);omega
 exact h
theorem Atm{a b:List (Int×Int)}(e:Bg a a.length=0)(f:Bg b b.length=0):Gm a b=(Ayc (Bb a).2 (Bb b).2,0):=by
 have c:=(Ears.split_ear e).1;have d:=(Ears.split_ear f).1;unfold Gm;rw[Ai4 c d];refine Prod.ext ?_ rfl
 show ((0:Int) == 0&&M6 (Bb a).2 (Bb b).2 (Bb a).2.length == 1)=_
 rw[cZ,Axk];have:=Aw1 (ss:=(Bb a).2) (ts:=(Bb b).2);simp;omega
theorem Avi(a:Fg c b=g)(h:G0 (gt c b) (gt c g)=true):Fg c (b+1)=b:=by
 rw[Fg,a,if_pos h]
theorem Awg(a:Fg c b=g)(h:G0 (gt c b) (gt c g)=false):Fg c (b+1)=g:=by
 rw[Fg,a,if_neg (by rw[h];simp)]
theorem Aso(b a d n:Nat)(l:List (Int×Int))(J:n<=d)(u:SpS w (some ⟨b,a,none⟩) n l)(R:n<=1000000:=by omega)(Q:0<n:=by omega):Calls prog 239 #[.slice (some ⟨b,a,none⟩) n d] w (Vi w (rot l (Fg l n))):=by
 have K:=bF u.1;go_enter func239,ntmps239;go_wp2;go_loopw [3,4] (λs i wr=>∃k j:Nat,1<=k/\k<=n/\i=k/\s=j/\Hid (Fg l k=j)/\Below w w wr) λ_ i _=>n-(intOf i).toNat
 case atStart=>exact⟨1,0,aK,aK,rfl,rfl,bF (by have:=ru l 1 aK;omega),aV _ _⟩
 obtain⟨k,j,M,N,rfl,rfl,v,g⟩:=hrel;have L:j<k:=by have:=ru l k aK;rw[v.out]at this;exact this
 by_cases A:k<n
 .obtain⟨D,E⟩:=(u.keep g).cells A;let⟨F,G⟩:=(u.keep g).cells (show j<n by omega);have O:(j:Int)<(n:Int):=aK
  have P:(k:Int)<(n:Int):=aK
  cases hv:G0 ((gt l k).1,(gt l k).2) ((gt l j).1,(gt l j).2) with
  | false =>
    go_wp2_with fail;refine Bh w [(⟨b,a+k*2,none⟩,(gt l k).1),(⟨b,a+k*2+1,none⟩,(gt l k).2),(⟨b,a+j*2,none⟩,(gt l j).1),(⟨b,a+j*2+1,none⟩,(gt l j).2)] ⟨g,aR⟩ ?_
    repeat
     apply Cx
     .rfl
     .intro x f;have C:=f.2;simp only[AC]at C
      go_simp
      first|rfl|exact Bw f (Ath)
     go_simp
    refine cH ?_;intro x c;have e:=c.1;clear c D E F G g;go_wp2;exact⟨⟨k+1,j,aK,aK,aP,rfl,bF (Awg v.out hv),e⟩,aI⟩
  | true =>
    go_wp2_with fail;refine Bh w [(⟨b,a+k*2,none⟩,(gt l k).1),(⟨b,a+k*2+1,none⟩,(gt l k).2),(⟨b,a+j*2,none⟩,(gt l j).1),(⟨b,a+j*2+1,none⟩,(gt l j).2)] ⟨g,aR⟩ ?_
    repeat
     apply Cx
     .rfl
     .intro x f;have C:=f.2;simp only[AC]at C
      go_simp
      first|rfl|exact Bw f (Ath)
     go_simp
    refine cH ?_;intro x c;have e:=c.1;clear c D E F G g;go_wp2;exact⟨⟨k+1,k,aK,aK,aP,rfl,bF (Avi v.out hv),e⟩,aI⟩
 obtain rfl:n=k:=aK
 have t:j<=n:=aK
 have O:(j:Int)<=(n:Int):=aK
 have P:(j:Int)<=(d:Int):=aK
 have S:j<d:=aK
 have p:([]:List (Int×Int)).length+(n-j)<=1000000:=aO
 have q:(l.drop j).length+j<=1000000:=by rw[dF,K.out];omega
 have m:OwS wr w (.slice none 0 0) []:=OwG.nil
 go_wp2_with (first
  | (at_builtin;refine Et rfl w (l.drop j) r (some ⟨b,a,none⟩) j d (l.take j) ((u.keep o).take t) (λh=>by cases h) q o.size ?_;intro U V B z I;have e:=Bk o r z)
  | (at_builtin;refine Et rfl w [] m (some ⟨b,a+j*2,none⟩) (n-j) (d-j) (l.drop j) ((u.keep g).drop t) (λh=>by cases h) p g.size ?_;intro T x r y H;rw[dQ]at r;have o:=Bk g m y))
 go_ret;refine⟨_,rfl,?_,e⟩;rw[v.out];exact B
theorem Ark:Calls prog 349 #[x] w λe a=>e=.returned (Ey x 0)/\Below w w a:=by
 go_enter func349,ntmps349;go_wp2;all_goals go_ret
 all_goals exact⟨Bm (by unfold Ey;(repeat split)<;>omega),aV _ _⟩
theorem Aze{q r:Int×Int}:OwS (w.alloc (.cells #[i.1,i.2,q.1,q.2,r.1,r.2] 65)) w (.slice (some ⟨w,0,none⟩) 3 3) [i,q,r]:=World.ownsRow_lit w #[i.1,i.2,q.1,q.2,r.1,r.2] 3 aA aS rfl
theorem Ar4(b c a n k:Nat)(l:List (Int×Int))(v:n<=1000000)(i:n<=a)(h:SpS w (some ⟨b,c,none⟩) n l)(p:k<n):Calls prog 184 #[.slice (some ⟨b,c,none⟩) n a,k] w λe j=>∃g,e=.returned (.slice (some ⟨g,0,none⟩) 3 3)/\OwS j w (.slice (some ⟨g,0,none⟩) 3 3) (Ac6 l n k)/\Below w w j:=by
 have d:(k+1) % n<n:=bE _ aK;have f:(k+n-1) % n<n:=bE _ aK;let⟨m,q⟩:=h.cells p;let⟨r,s⟩:=h.cells d;let⟨t,u⟩:=h.cells f;have x:=Q6 ((k:Int)+1) (k+1) n;have y:=Q6 ((k:Int)+(n:Int)-1) (k+n-1) n (hz:=aK)
 go_enter func184,ntmps184;go_wp2_with fail;go_region;all_goals go_wp2
 all_goals go_ret
 all_goals exact⟨w,rfl,OwG.keep (Aze) (Aw (aV _ _)),Aw (Ao (aV _ _))⟩
theorem Ase(b d a n j:Nat)(l:List (Int×Int))(D:n<=a)(u:SpS w (some ⟨b,d,none⟩) n l)(G:j<n)(I:n<=1000000:=by omega):Calls prog 185 #[.slice (some ⟨b,d,none⟩) n a,j] w (Vi w (l.eraseIdx j)):=by
 have H:=bF u.1;have s:j<=n:=aK
 have r:j+1<=n:=G;have J:(j:Int)<=(n:Int):=aK
 have K:(j:Int)<=(a:Int):=aK
 have L:j<a:=aK
 have M:IntKind.i64.wrap ((j:Int)+1)=(j:Int)+1:=Dx j 1;have N:(j:Int)+1<=(n:Int):=aK
 have g:([]:List (Int×Int)).length+j<=1000000:=aO
 have i:(l.take j).length+(n-(j+1))<=1000000:=by rw[bC];omega
 have e:OwS w w (.slice none 0 0) []:=OwG.nil;have B:=aV w w;let⟨m,c⟩:=gN ((if a=j+1 then some ⟨b,d,none⟩ else some ⟨b,d+(j+1)*2,none⟩):Option Addr)
 have E:=bF c
 have x:m=none->a-(j+1)=0:=by
  intro h;subst h;split at c<;>cases c
 have v:∀y,SpS y (some ⟨b,d,none⟩) n l->SpS y m (n-(j+1)) (l.drop (j+1)):=by
  intro y h;by_cases C:a=j+1
  .rw[if_pos C]at c;have F:=h.take (Nat.zero_le n);rw[<-c,show n-(j+1)=0 by omega,List.drop_of_length_le (by rw[h.1];omega)];exact F
  rw[if_neg C]at c;rw[<-c];exact h.drop r
 clear c;go_enter func185,ntmps185
 go_wp2_with (first
  | (at_builtin;refine Et rfl w (l.take j) k m (n-(j+1)) (a-(j+1)) (l.drop (j+1)) (hx:=by rw[<-E.out];rfl) (v _ (u.keep f)) x i f.size ?_;intro P R t q A;have o:=Bk f k q)
  | (at_builtin;(refine Et rfl w [] e (some ⟨b,d,none⟩) j a (l.take j) (u.take s) (λh=>by cases h) g B.size ?_;intro O Q k p z;rw[dQ]at k;have f:=Bk B e p)))
 all_goals go_ret
 all_goals refine⟨_,rfl,?_,o⟩
 all_goals rw[List.eraseIdx_eq_take_drop_succ]
 all_goals exact t
theorem Ayg{q r:Int×Int}(h:OwS w b (.slice (some ⟨g,0,none⟩) 3 3) [i,q,r]):w.cell? ⟨g,0,none⟩=some i.1/\w.cell? ⟨g,1,none⟩=some i.2/\w.cell? ⟨g,2,none⟩=some q.1/\w.cell? ⟨g,3,none⟩=some q.2/\w.cell? ⟨g,4,none⟩=some r.1/\w.cell? ⟨g,5,none⟩=some r.2/\g<w.heap.size:=by
 have c:=λk d=>(OwG.cells h k d)
 have a:=(c 0 aL).trans rfl;exact⟨a,(c 1 aL).trans rfl,(c 2 aL).trans rfl,(c 3 aL).trans rfl,(c 4 aL).trans rfl,(c 5 aL).trans rfl,Bi a⟩
theorem Arh(a:Nat)(l:List (Int×Int))(p:m<=1000000)(f:m<=k)(q:SpS w (some ⟨b,g,none⟩) m l)(o:a<m):Calls prog 240 #[.slice (some ⟨b,g,none⟩) m k,a] w λe s=>e=.returned (Vf l m a)/\Below w w s:=by
 go_enter func240,ntmps240
 go_wp2_with (go_at_call 184;refine aF (Ar4 _ _ _ _ _ l p f q o) λt d j i=>?_;let⟨u,v,x,y,z,A,B⟩:=Ayg j)
 refine Bh w [(⟨d,0,none⟩,(gt l ((a+m-1) % m)).1),(⟨d,1,none⟩,(gt l ((a+m-1) % m)).2),(⟨d,2,none⟩,(gt l a).1),(⟨d,3,none⟩,(gt l a).2),(⟨d,4,none⟩,(gt l ((a+1) % m)).1),(⟨d,5,none⟩,(gt l ((a+1) % m)).2)] ⟨i,aR⟩ ?_
 repeat
  apply Cx
  .rfl
  .intro t h;have r:=h.2;simp only[AC]at r
   go_simp
   first|rfl|exact Bw h (L5)
  go_simp
 refine cH ?_;intro C c;have n:=c.1;clear c;go_wp2;go_ret;exact⟨rfl,n⟩
theorem Atj(b j f n:Nat)(l:List (Int×Int))(a:n<=f)(r:SpS w (some ⟨b,j,none⟩) n l)(p:n<=1000000:=by omega):Calls prog 182 #[.slice (some ⟨b,j,none⟩) n f] w λe s=>e=.returned (Db (Tl l n) n)/\Below w w s:=by
 go_enter func182,ntmps182;go_wp2;go_loopw [3] (λi wr=>∃k:Nat,k<=n/\i=k/\Hid (Bp (Tl l n) k=false)/\Below w w wr) λi _=>n-(intOf i).toNat
 case atStart=>exact⟨0,aB,rfl,bF (Bp.zero _),aV _ _⟩
 obtain⟨k,u,rfl,o,g⟩:=hrel;by_cases d:k<n
 .by_cases h:Vf l n k=0
  .have m:=bF h;have q:(Vf l n k == 0)=true:=by rw[h];rfl
   clear h
   go_wp2_with (go_at_call 240;refine rR (Arh k l p a (r.keep g) d) λt c=>?_)
   go_ret;exact⟨Bm (Hf d o.out (by unfold Tl;exact beq_iff_eq.2 m.out)).symm,An g c⟩
  have m:=bF h;have q:(Vf l n k == 0)=false:=by rw[eP];exact h
  go_wp2_with (go_at_call 240;refine rR (Arh k l p a (r.keep g) d) λt c=>?_)
  exact aE ⟨bF (Bp.succ o.out (by unfold Tl;exact eP.2 m.out)),An g c⟩
 obtain rfl:n=k:=aK
 go_wp2;go_ret;exact⟨Bm (Fy o.out).symm,g⟩
theorem OwS.formS(h:OwS w b j c)(f:c.length=n)(d:0<n):∃g a,j=.slice (some ⟨g,0,none⟩) n a/\n<=a/\SpS w (some ⟨g,0,none⟩) n c:=by
 subst f;obtain⟨A,a,rfl,e,i,k⟩:=h.sps;obtain⟨g,rfl,-,-⟩:=k d;exact⟨g,a,rfl,e,i⟩
theorem Ayy(h:c.length=b)(a:Bg c b=0):3<=(Qg c b b).length/\F4 (Qg c b b) (Qg c b b).length (Qg c b b).length=F4 c b b:=by
 subst h;obtain⟨-,d,-,e,f⟩:=Ears.corn_good a;have i:=El a;have g:=Lj c c.length c.length;refine⟨d,?_⟩;rw[Ears.area_ar (λq hq=>gv a q (f.1 q hq)) aK aK,Ears.area_ar (gv a) aK aK,e]
theorem Auw(b a E n:Nat)(l:List (Int×Int))(w:World)(hl:n<=1000)(H:n<=E)(L:SpS w (some ⟨b,a,none⟩) n l)(N:Bg l n=0):Calls prog 181 #[.slice (some ⟨b,a,none⟩) n E] w λe w'=>∃v,e=.returned (.tuple #[v,.int .i64 0])/\OwS w' w v (Ct l n)/\Below w w w':=by
 have C:=bF (Ayy L.1 N);have S:=(El N).1;have q:(Bg l n != 0)=false:=by rw[N];rfl
 clear N;go_enter func181,ntmps181
 go_wp2_with (go_at_call 70;refine rR (Hr _ l H L) λw1 F=>?_)
 clear q;go_loopw [5,7] (λs i wr=>∃k:Nat,k<=n/\i=k/\OwS wr w s (Qg l n k)/\Below w w wr) λ_ i _=>n-(intOf i).toNat
 case atStart=>exact⟨0,aB,rfl,OwG.nil,F⟩
 clear F;obtain⟨k,hk,rfl,J,x⟩:=hrel;by_cases V:k<n
 .have p:=Lj l n k;have W:(k+1) % n<n:=bE _ aK;have X:(k+n-1) % n<n:=bE _ aK;let⟨h1,h2⟩:=(L.keep x).cells V;let⟨S,h4⟩:=(L.keep x).cells W;let⟨h5,h6⟩:=(L.keep x).cells X;have m1:=Q6 ((k:Int)+1) (k+1) n;have m2:=Q6 ((k:Int)+(n:Int)-1) (k+n-1) n (hz:=aK);have q1:IntKind.i64.wrap ((k:Int)+1)=(k:Int)+1:=Dx k 1;have q2:IntKind.i64.wrap ((k:Int)+(n:Int))=(k:Int)+(n:Int):=Dx k n;have q3:IntKind.i64.wrap ((k:Int)+(n:Int)-1)=(k:Int)+(n:Int)-1:=Fm _ aK aK;have q4:¬n=0:=aK
  by_cases j:(Vf l n k != 0)=true
  .have q5:(Bs ((gt l ((k+n-1) % n)).1,(gt l ((k+n-1) % n)).2) ((gt l k).1,(gt l k).2) ((gt l ((k+1) % n)).1,(gt l ((k+1) % n)).2) != 0)=true:=j;have y:=bF j;clear j;go_wp2_with fail;refine Bh wr [(⟨b,a+k*2,none⟩,(gt l k).1),(⟨b,a+k*2+1,none⟩,(gt l k).2),(⟨b,a+(k+1) % n*2,none⟩,(gt l ((k+1) % n)).1),(⟨b,a+(k+1) % n*2+1,none⟩,(gt l ((k+1) % n)).2),(⟨b,a+(k+n-1) % n*2,none⟩,(gt l ((k+n-1) % n)).1),(⟨b,a+(k+n-1) % n*2+1,none⟩,(gt l ((k+n-1) % n)).2)] ⟨(aV _ _),aR⟩ ?_
   repeat
    apply Cx
    .rfl
    .intro w1 r;have hx:=r.2;simp only[AC]at hx
     go_simp
     first|rfl|exact Bw r (L5)
    go_simp
   refine cH ?_;intro w9 d;have f:=d.1;clear d m1 m2 q2 q3 S h4 h5 h6;have c1:=Aq f h1;have c2:=Aq f h2;have K:OwS w9 w _ _:=OwG.keep J f;have u:=An x f;clear h1 h2 J x f
   go_wp2_with (at_builtin;refine Dl rfl w (Qg l n k) (K.alloc _) w9 1 (gt l k) 65 (Bf.new _ _ _) aK (Ao u).size ?_;intro v' w' Y U b2)
   exact aE ⟨by rw[<-Abq y.out];exact Y,Bk (Ao u) (K.alloc _) U⟩
  have o:(Vf l n k != 0)=false:=by simpa using j
  have q5:(Bs ((gt l ((k+n-1) % n)).1,(gt l ((k+n-1) % n)).2) ((gt l k).1,(gt l k).2) ((gt l ((k+1) % n)).1,(gt l ((k+1) % n)).2) != 0)=false:=o;have y:=bF o;clear j o;go_wp2_with fail;refine Bh wr [(⟨b,a+k*2,none⟩,(gt l k).1),(⟨b,a+k*2+1,none⟩,(gt l k).2),(⟨b,a+(k+1) % n*2,none⟩,(gt l ((k+1) % n)).1),(⟨b,a+(k+1) % n*2+1,none⟩,(gt l ((k+1) % n)).2),(⟨b,a+(k+n-1) % n*2,none⟩,(gt l ((k+n-1) % n)).1),(⟨b,a+(k+n-1) % n*2+1,none⟩,(gt l ((k+n-1) % n)).2)] ⟨(aV _ _),aR⟩ ?_
  repeat
   apply Cx
   .rfl
   .intro w1 r;have hx:=r.2;simp only[AC]at hx
    go_simp
    first|rfl|exact Bw r (L5)
   go_simp
  refine cH ?_;intro w9 d;have f:=d.1;clear d m1 m2 q2 q3 S h4 h5 h6;go_wp2_with fail;exact aE ⟨by rw[<-Agx y.out];exact OwG.keep J f,An x f⟩
 obtain rfl:n=k:=aK
 have p:=Lj l n n;have Q:=bF (show Km l n=if F4 l n n<0 then (Qg l n n).reverse else Qg l n n from rfl);have D:=bF (show Ct l n=rot (Km l n) (Fg (Km l n) (Km l n).length) from rfl);let⟨c,I⟩:=gN (Qg l n n)
 rw[I]at C Q J p;let⟨m,O⟩:=gN c.length
 rw[O]at C p;have P:=bF O;have bb:3<=m:=C.out.1;have HA:=bF C.out.2;obtain⟨g,M,rfl,A,t⟩:=J.formS O aK;clear O I C;by_cases ha:F4 l n n<0
 .go_wp2_with (first
   | (go_at_call 239;have a7:=G;refine aF (Aso g3 0 c3 m c.reverse T a1) λw4 v4 B z=>?_)
   | (go_at_call 238;have bc:=h;refine aF (As1 g 0 M m c aK (t.keep h)) λw3 v3 Z G=>?_;obtain⟨g3,c3,rfl,T,a1⟩:=Z.formS (n:=m) (by rw[dV];exact P.out) aK)
   | (go_at_call 75;refine rR (bf g 0 M m c A t) λw2 h=>?_;rw[HA.out]))
  go_ret2
  have u:=An (An x h) G;refine⟨_,rfl,?_,An u z⟩;have R:Km l n=c.reverse:=by rw[Q.out,if_pos ha]
  rw[D.out,R,dV,P.out];exact OwG.lower B u.size
 go_wp2_with (first
  | (go_at_call 239;have a7:=h;refine aF (Aso g 0 M m c A (t.keep h)) λw4 v4 B z=>?_)
  | (go_at_call 75;refine rR (bf g 0 M m c A t) λw2 h=>?_;rw[HA.out]))
 go_ret2
 have u:=An x h;refine⟨_,rfl,?_,An u z⟩;have R:Km l n=c:=by rw[Q.out,if_neg aK]
 rw[D.out,R,P.out];exact OwG.lower B u.size
theorem Aty(A:Option Addr)(a n:Nat)(l:List (Int×Int))(w:World)(f:n<=9223372036854775807)(b:n<=a)(g:SpS w A n l)(d:¬Bg l n=0):Calls prog 181 #[.slice A n a] w λe h=>e=.returned (.tuple #[.slice none 0 0,(Bg l n)])/\Below w w h:=by
 have q:(Bg l n != 0)=true:=by rw[eT];exact d
 clear d;go_enter func181,ntmps181
 go_wp2_with (go_at_call 70;refine rR (Hr _ l (hl:=f) b g) λi c=>?_)
 go_ret2
 exact⟨rfl,c⟩
def Au6(p q r s:Int×Int):Int :=
 min (min (min 1 (Ey (Bs p q r) 0*Ey (Bs p q s) 0)) (Ey (Bs p q r) 0*Ey (Bs q r s) 0)) (Ey (Bs p q r) 0*Ey (Bs r p s) 0)
theorem Asv(a b:Int):Ey a b = -1\/Ey a b=0\/Ey a b=1:=by
 unfold Ey;by_cases c:a<b
 .rw[if_pos c];exact .inl rfl
 rw[if_neg c];by_cases d:a > b
 .rw[if_pos d];exact .inr (.inr rfl)
 rw[if_neg d];exact .inr (.inl rfl)
theorem Asy(a b c d:Int):IntKind.i64.wrap (Ey a b*Ey c d)=Ey a b*Ey c d:=by
 apply Fm;all_goals rcases Asv a b with h|h|h<;>rcases Asv c d with e|e|e<;>rw[h,e]<;>decide
theorem qm(a b:Int):(if b<a then b else a)=min a b:=by
 by_cases h:b<a
 .rw[if_pos h];omega
 rw[if_neg h];omega
theorem qa:Value.int .i64 (if l<f then l else f)=.int .i64 (min f l):=by rw[qm]
theorem Azd(p q r s:Int×Int):min (min 1 (min (Ey (Bs p q r) 0*Ey (Bs p q s) 0) (Ey (Bs p q r) 0*Ey (Bs q r s) 0))) (Ey (Bs p q r) 0*Ey (Bs r p s) 0)=Au6 p q r s:=by
 unfold Au6;omega
theorem Arb(p q r:Int×Int)(n:3<=g)(m:w.cell? ⟨b,0,none⟩=some p.1)(s:w.cell? ⟨b,1,none⟩=some p.2)(t:w.cell? ⟨b,2,none⟩=some q.1)(u:w.cell? ⟨b,3,none⟩=some q.2)(v:w.cell? ⟨b,4,none⟩=some r.1)(y:w.cell? ⟨b,5,none⟩=some r.2):Calls prog 305 #[.slice (some ⟨b,0,none⟩) 3 g,.agg #[x,f]] w λe A=>e=.returned (Au6 p q r (x,f))/\Below w w A:=by
 have l:Cls w [(⟨w,0,none⟩,x),(⟨w,1,none⟩,f),(⟨b,0,none⟩,p.1),(⟨b,1,none⟩,p.2),(⟨b,2,none⟩,q.1),(⟨b,3,none⟩,q.2),(⟨b,4,none⟩,r.1),(⟨b,5,none⟩,r.2)] (w.alloc (.cells #[x,f] 65)):=by
  have D:=Bi m;exact⟨blA,aR⟩
 go_enter func305,ntmps305;go_wp2_with fail;have j:=l.2;simp only[AC]at j;refine Bh w [(⟨w,0,none⟩,x),(⟨w,1,none⟩,f),(⟨b,0,none⟩,p.1),(⟨b,1,none⟩,p.2),(⟨b,2,none⟩,q.1),(⟨b,3,none⟩,q.2),(⟨b,4,none⟩,r.1),(⟨b,5,none⟩,r.2)] ⟨l.1,aR⟩ ?_
 repeat
  apply Cx
  .rfl
  .intro B h;have j:=h.2;simp only[AC]at j
   go_simp
   first|rfl|exact Bw h (L5)|exact Bw h (Ark)
  go_simp
 refine cH ?_;intro C a;have k:=a;clear a l j m s t u v y;go_wp2_with fail;go_loopw [6,7] (λo i wr=>((i=.int .i64 0/\o=.int .i64 1)\/(i=.int .i64 1/\o=.int .i64 (min 1 (Ey (Bs p q r) 0*Ey (Bs p q (x,f)) 0)))\/(i=.int .i64 2/\o=.int .i64 (min (min 1 (Ey (Bs p q r) 0*Ey (Bs p q (x,f)) 0)) (Ey (Bs p q r) 0*Ey (Bs q r (x,f)) 0)))\/(i=.int .i64 3/\o=(Au6 p q r (x,f))))/\Cls w [(⟨w,0,none⟩,x),(⟨w,1,none⟩,f),(⟨b,0,none⟩,p.1),(⟨b,1,none⟩,p.2),(⟨b,2,none⟩,q.1),(⟨b,3,none⟩,q.2),(⟨b,4,none⟩,r.1),(⟨b,5,none⟩,r.2)] wr) λ_ i _=>3-(intOf i).toNat
 case atStart=>exact⟨.inl ⟨rfl,rfl⟩,k⟩
 clear k;obtain⟨z,k⟩:=hrel;have F:IntKind.i64.wrap 1=1:=Fm _ aK aK;have G:IntKind.i64.wrap 2=2:=Fm _ aK aK;have H:IntKind.i64.wrap 3=3:=Fm _ aK aK;have I:(1:Int).tmod 3=1:=rfl;have J:(2:Int).tmod 3=2:=rfl;have K:(3:Int).tmod 3=0:=rfl;rcases z with⟨rfl,rfl⟩|⟨rfl,rfl⟩|⟨rfl,rfl⟩|⟨rfl,rfl⟩
 rotate_right
 .go_wp2_with fail
  go_ret;exact⟨rfl,k.1⟩
 all_goals
  go_wp2_with fail;have j:=k.2;simp only[AC]at j;have E:=λc d=>Asy (Bs (p.1,p.2) (q.1,q.2) (r.1,r.2)) 0 (Bs c d (x,f)) 0
  refine Bh w [(⟨w,0,none⟩,x),(⟨w,1,none⟩,f),(⟨b,0,none⟩,p.1),(⟨b,1,none⟩,p.2),(⟨b,2,none⟩,q.1),(⟨b,3,none⟩,q.2),(⟨b,4,none⟩,r.1),(⟨b,5,none⟩,r.2)] ⟨k.1,aR⟩ ?_
  repeat
   apply Cx
   .rfl
   .intro B h;have j:=h.2;simp only[AC]at j
    go_simp
    first|rfl|exact Bw h (L5)|exact Bw h (Ark)
   go_simp
  refine cH ?_;intro C a;clear k j;go_wp2_with fail
 .exact⟨⟨.inr (.inl ⟨rfl,by first|exact qa|rfl|exact eB _ (Int.min_assoc _ _ _).symm⟩),a⟩,aJ⟩
 .exact⟨⟨.inr (.inr (.inl ⟨rfl,by first|exact qa|rfl|exact eB _ (Int.min_assoc _ _ _).symm⟩)),a⟩,aJ⟩
 exact⟨⟨.inr (.inr (.inr ⟨rfl,by first|exact qa.trans (eB (Value.int .i64) (Azd p q r (x,f)))|exact eB (Value.int .i64) (Azd p q r (x,f))|(refine eB (Value.int .i64) (Eq.trans ?_ (Azd p q r (x,f)));cases p;cases q;cases r;dsimp only;omega)⟩)),a⟩,aJ⟩
def frR(l:List (Int×Int))(n k j:Nat):Bool:=eqS (gt l j) (gt l ((k+n-1) % n)) || eqS (gt l j) (gt l k) || eqS (gt l j) (gt l ((k+1) % n)) || decide (Au6 (gt l ((k+n-1) % n)) (gt l k) (gt l ((k+1) % n)) (gt l j)<0)
def Axe(l:List (Int×Int))(n k:Nat):Bool:=decide (0<Vf l n k)&&Ix (frR l n k) n
theorem Ati(h:Nat)(l:List (Int×Int))(hl:m<=1000000)(C:m<=k)(S:SpS w (some ⟨b,g,none⟩) m l)(hk:h<m):Calls prog 241 #[.slice (some ⟨b,g,none⟩) m k,h] w λe w'=>e=.returned (.bool (Ix (frR l m h) m))/\Below w w w':=by
 let⟨p,t⟩:=gN (gt l ((h+m-1) % m))
 let⟨q,hq⟩:=gN (gt l h)
 let⟨r,G⟩:=gN (gt l ((h+1) % m))
 have Z:=bF (show Ac6 l m h=[p,q,r] by unfold Ac6;rw[t,hq,G]);have Y:=bF (show ∀j,frR l m h j=(eqS (gt l j) p || eqS (gt l j) q || eqS (gt l j) r || decide (Au6 p q r (gt l j)<0)) from λj=>by unfold frR;rw[t,hq,G]);clear t hq G;have R:=Ea;go_enter func241,ntmps241
 go_wp2_with (go_at_call 184;refine aF (Ar4 _ _ _ _ _ l hl C S hk) λX c o B=>?_;rw[Z.out]at o;let⟨L,M,N,O,P,Q,h7⟩:=Ayg o)
 have z:Cls w [(⟨c,0,none⟩,p.1),(⟨c,1,none⟩,p.2),(⟨c,2,none⟩,q.1),(⟨c,3,none⟩,q.2),(⟨c,4,none⟩,r.1),(⟨c,5,none⟩,r.2)] X:=⟨B,L,M,N,O,P,Q,trivial⟩;clear L M N O P Q h7 o B;go_loopw [6] (λi wr=>∃j:Nat,j<=m/\i=.int .i64 j/\Hid (Ix (frR l m h) j=true)/\Cls w [(⟨c,0,none⟩,p.1),(⟨c,1,none⟩,p.2),(⟨c,2,none⟩,q.1),(⟨c,3,none⟩,q.2),(⟨c,4,none⟩,r.1),(⟨c,5,none⟩,r.2)] wr) λi _=>m-(intOf i).toNat
 case atStart=>exact⟨0,aB,rfl,bF (Ix.zero _),z⟩
 clear z;obtain⟨j,hj,rfl,t,y⟩:=hrel;by_cases D:j<m
 .obtain⟨J,K⟩:=(S.keep y.1).cells D;have u:=bF (Y.out j);let⟨x,d⟩:=gN (gt l j)
  rw[d]at J K u;clear d;have d:=y.2;simp only[AC]at d;have z2:(j:Int)<(m:Int):=aK
  let⟨T,H⟩:=gN (eqS (x.1,x.2) (p.1,p.2))
  let⟨U,E⟩:=gN (eqS (x.1,x.2) (q.1,q.2))
  let⟨V,s⟩:=gN (eqS (x.1,x.2) (r.1,r.2))
  let⟨W,n⟩:=gN (decide (0<=Au6 p q r (x.1,x.2)))
  have I:=Ar (show frR l m h j=(T || U || V || !W) by rw[u.out,<-H,<-E,<-s,<-n,<-decide_not,decide_eq_decide.2 (Int.not_le (a:=0) (b:=Au6 p q r (x.1,x.2)))]);cases T
  case' true=>clear E s n
  case' false =>
   cases U
   case' true=>clear s n
   case' false =>
    cases V
    case' true=>clear n
    case' false=>cases W
  all_goals
   go_wp2_with fail;refine Bh w [(⟨b,g+j*2,none⟩,x.1),(⟨b,g+j*2+1,none⟩,x.2),(⟨c,0,none⟩,p.1),(⟨c,1,none⟩,p.2),(⟨c,2,none⟩,q.1),(⟨c,3,none⟩,q.2),(⟨c,4,none⟩,r.1),(⟨c,5,none⟩,r.2)] ⟨y.1,aR⟩ ?_
   repeat
    first
    | go_big_quiet_skip
    | go_big_quiet_want
      apply Exists.intro;refine And.intro ?_ ?_
      .intro X F;have d:=F.2;simp only[AC]at d
       go_simp
       first|rfl|exact Bw F (Arb p q r aA d.2.2.1 d.2.2.2.1 d.2.2.2.2.1 d.2.2.2.2.2.1 d.2.2.2.2.2.2.1 d.2.2.2.2.2.2.2.1)
      go_simp
      go_big_quiet_on
   refine cH ?_;intro w9 f;have A:Cls w [(⟨c,0,none⟩,p.1),(⟨c,1,none⟩,p.2),(⟨c,2,none⟩,q.1),(⟨c,3,none⟩,q.2),(⟨c,4,none⟩,r.1),(⟨c,5,none⟩,r.2)] w9:=⟨f.1,f.2.2.2⟩;clear f y d J K;go_wp2_with fail
  all_goals first
   | (go_ret;exact⟨Bn (Ix.no D I.out).symm,A.1⟩)
   | exact aE ⟨Ar (Ix.succ t.out I.out),A⟩
 obtain rfl:m=j:=aK
 go_wp2;go_ret;exact⟨Bn t.out.symm,y.1⟩
theorem Awk(b o j n:Nat)(l:List (Int×Int))(q:n<=1000000)(c:n<=j)(r:SpS w (some ⟨b,o,none⟩) n l):Calls prog 183 #[.slice (some ⟨b,o,none⟩) n j] w λe u=>e=.returned (Db (Axe l n) n)/\Below w w u:=by
 go_enter func183,ntmps183;go_wp2;go_loopw [3] (λi wr=>∃k:Nat,k<=n/\i=k/\Hid (Bp (Axe l n) k=false)/\Below w w wr) λi _=>n-(intOf i).toNat
 case atStart=>exact⟨0,aB,rfl,bF (Bp.zero _),aV _ _⟩
 obtain⟨k,x,rfl,p,g⟩:=hrel;by_cases d:k<n
 .have h:=bF (show Axe l n k=(decide (0<Vf l n k)&&Ix (frR l n k) n) from rfl);by_cases s:0<Vf l n k
  case' pos =>
   rw[bV s,Bool.true_and]at h;let⟨v,f⟩:=gN (Ix (frR l n k) n)
   rw[f]at h;have t:=Ar f;clear f;cases v
  case' neg=>rw[decide_eq_false s,Bool.false_and]at h
  all_goals go_wp2_with (first
   | (go_at_call 241;have y:=a;refine rR (Ati k l q c (r.keep (An g a)) d) λA m=>?_;rw[t.out])
   | (go_at_call 240;refine rR (Arh k l q c (r.keep g) d) λz a=>?_))
  all_goals first
   | (go_ret;exact⟨Bm (Hf d p.out h.out).symm,An (An g a) m⟩)
   | exact aE ⟨Ar (Bp.succ p.out h.out),by first|exact An (An g a) m|exact An g a⟩
 obtain rfl:n=k:=aK
 go_wp2;go_ret;exact⟨Bm (Fy p.out).symm,g⟩
theorem Asr:Calls prog 179 #[f] w λe a=>e=.returned (.bool (decide (-1048576<=f)&&decide (f<=1048576)))/\a=w:=by
 go_enter func179,ntmps179;go_wp2;all_goals go_ret
 all_goals exact⟨Bn (by rw[cZ];simp<;>omega),rfl⟩
theorem Auz(x y:Int):(!Cc 1048576 (x,y))=((decide (-1048576<=x)&&decide (x<=1048576))&&(decide (-1048576<=y)&&decide (y<=1048576))):=by
 rw[cZ];unfold Cc;simp;omega
theorem Aq2:Calls prog 123 #[.agg #[x,f]] w λe a=>e=.returned (.bool (!Cc 1048576 (x,f)))/\Below w w a:=by
 rw[Auz];cases h:(decide (-1048576<=x)&&decide (x<=1048576)) with
 | true =>
   have H:=bF h;clear h;go_enter func123,ntmps123
   go_wp2_with (go_at_call 179;refine aH (Asr) ?_;try rw[H.out])
   go_ret;exact⟨rfl,Ao (aV _ _)⟩
 | false =>
   have H:=bF h;clear h;go_enter func123,ntmps123
   go_wp2_with (go_at_call 179;refine aH (Asr) ?_;try rw[H.out])
   go_ret;exact⟨rfl,Ao (aV _ _)⟩
theorem Arl(b:Bed4):Calls prog 79 #[Jw b] w λe a=>e=.returned (.bool (!Gg b))/\Below w w a:=by
 obtain⟨len,c,rx,d⟩:=b;unfold Jw;dsimp only;go_enter func79,ntmps79;go_wp2;all_goals go_ret
 all_goals exact⟨Bn (by rw[cZ];unfold Gg;simp<;>omega),Ao (aV _ _)⟩
theorem Avh(A:Option Addr)(a n:Nat)(S:List Shp)(p:Pt5)(w:World)(f:ShS w A n S)(h:p.sh<0\/p.sh ≥ n\/Cc 1048576 (p.x,p.y)=true):Calls prog 80 #[.slice A n a,L7 p] w (wh w (3,[])):=by
 obtain⟨sh,g,k,x,y⟩:=p;unfold L7;dsimp only at h ⊢;have j:=f.2.1;go_enter func80,ntmps80;by_cases c:sh<0
 .go_wp2
  go_ret2
  exact⟨_,rfl,OwG.nil,Ao (aV _ _)⟩
 by_cases d:sh ≥ n
 .go_wp2
  go_ret2
  exact⟨_,rfl,OwG.nil,Ao (aV _ _)⟩
 have i:Cc 1048576 (x,y)=true:=by rcases h with h|h|h;exact absurd h c;exact absurd h d;exact h
 go_wp2_with (go_at_call 123;refine rR (Aq2) λl b=>?_)
 go_ret2
 exact⟨_,rfl,OwG.nil,An (Ao (aV _ _)) b⟩
theorem Awf(A:Option Addr)(X n:Nat)(S:List Shp)(p:Pt5)(k:Nat)(w:World)(hS:ShS w A n S)(hk:p.sh=(k:Int))(Z:k<n)(G:Cc 1048576 (p.x,p.y)=false):Calls prog 80 #[.slice A n X,L7 p] w (wh w (La (shp S k).poly p)):=by
 obtain⟨sh,t,z,x,y⟩:=p;dsimp only at hk G;subst hk;unfold L7;dsimp only;have hn:=hS.2.1;obtain⟨b,b7,rfl,b5,Ak,ck,B,R,g3,D,g5,g6,g7,g8,g9⟩:=hS.at_ Z;let⟨l,hl⟩:=gN ((shp S k).poly)
 rw[hl]at B R D ⊢;clear hl g6 g7 g8 g9;let⟨m,hm⟩:=gN l.length
 rw[hm]at B R D;have L:=bF hm;clear hm;have Y:=bF (Bf.new w 72 #[k,.bool t,z,x,y]);by_cases o:Bg l m=0
 .have q:(Bg l m != 0)=false:=by rw[o];rfl
  have au:=(El o).2;have HC:=bF o;clear o;let⟨r,T⟩:=gN (Yv (F6 t z l) (x,y))
  have I:r.length=m:=by rw[<-T,Ld,E8,L.out]
  have u:=bF (show La l ⟨(k:Int),t,z,x,y⟩=if Bg r m≠0 then (Bg r m,[]) else (0,r) by unfold La;rw[L.out,if_neg (by rw[HC.out];simp),T]);have W:=bF T;have V:=bF I;clear T I;go_enter func80,ntmps80
  go_upto_region 7 with (first|(go_at_call 123;refine rR (Aq2) λw1 a=>?_;have J:=Y.out.keep a;have M:=J.cell 0;simp only[cA,bS,cE]at M;have C:=Aq (An (Ao (aV _ _)) a) B)|(go_at_call 70;refine rR (Hr _ l R (D.keep (An (Ao (aV _ _)) a))) λw2 d=>?_))
  have j:=An (An (Ao (aV _ _)) a) d;have K:=J.keep d;have E:=D.keep j;have N:=K.cell 1;have O:=K.cell 2;have P:=K.cell 3;have Q:=K.cell 4;simp only[cA,bS,cE]at N O P Q;clear C M J a d B Y K;go_cut [8] λv wx=>OwS wx w v r/\Below w w wx
  case first =>
   go_region_held3 (λU=>U.cell? ⟨w,1,none⟩=some (.bool t)/\U.cell? ⟨w,2,none⟩=some z/\U.cell? ⟨w,3,none⟩=some x/\U.cell? ⟨w,4,none⟩=some y)
    (first
     | (go_keep;done)
     | exact⟨Aq c N,Aq c O,Aq c P,Aq c Q⟩
     | exact⟨Aq f (Aq c N),Aq f (Aq c O),Aq f (Aq c P),Aq f (Aq c Q)⟩)
    ((first
      | (go_at_call 20;refine aF (bg _ _ _ _ _ l aK (E.keep (Aw (aV _ _)))) λw3 v3 a7 c=>?_;obtain⟨A3,c3,rfl,b6,F,-,-⟩:=OwS.els a7;rw[E8,L.out]at F ⊢)
      | (go_at_call 19;refine aF (Atg _ _ _ (F6 t z l) _ _ aK F) λw4 v4 H f=>?_)))
   all_goals go_wp2
   all_goals go_meet
   all_goals (rw[W.out]at H;exact⟨OwG.lower H (bB j.size c.size),An (An (Aw j) c) f⟩)
  clear j E N O P Q;obtain⟨G,j⟩:=hcut;obtain⟨A8,c8,rfl,s,i,-,-⟩:=OwS.els G;rw[V.out]at s i G ⊢;by_cases g:Bg r m=0
  .have q2:(Bg r m != 0)=false:=by rw[g];rfl
   rw[g]at u
   go_wp2_with (go_at_call 70;refine rR (Hr _ r s i) λw5 h=>?_)
   go_ret2
   exact⟨_,by rw[u.out];rfl,by rw[u.out];exact OwG.keep G h,An j h⟩
  have q2:(Bg r m != 0)=true:=by simpa using g
  rw[if_pos g]at u;clear g
  go_wp2_with (go_at_call 70;refine rR (Hr _ r s i) λw5 h=>?_)
  go_ret2
  exact⟨_,by rw[u.out];rfl,by rw[u.out];exact OwG.nil,An j h⟩
 have q:(Bg l m != 0)=true:=by simpa using o
 have HR:=bF (show La l ⟨(k:Int),t,z,x,y⟩=(Bg l m,[]) by unfold La;rw[L.out,if_pos o]);clear o;go_enter func80,ntmps80
 go_wp2_with (first|(go_at_call 123;refine rR (Aq2) λw1 a=>?_;have J:=Y.out.keep a;have M:=J.cell 0;simp only[cA,bS,cE]at M;have C:=Aq (An (Ao (aV _ _)) a) B)|(go_at_call 70;refine rR (Hr _ l R (D.keep (An (Ao (aV _ _)) a))) λw2 d=>?_))
 go_ret2
 exact⟨_,by rw[HR.out];rfl,by rw[HR.out];exact OwG.nil,An (An (Ao (aV _ _)) a) d⟩
theorem Ara(S:List Shp)(p:Pt5)(a:ShS w e g S):Calls prog 80 #[.slice e g b,L7 p] w (wh w (Br S p)):=by
 by_cases h:p.sh<0\/p.sh ≥ g\/Cc 1048576 (p.x,p.y)=true
 .rw[show Br S p=(3,[]) by unfold Br;rw[a.1,if_pos h]];exact Avh e b g S p w a h
 rw[show Br S p=La (shp S p.sh.toNat).poly p by unfold Br;rw[a.1,if_neg h]];simp only[not_or]at h;exact Awf e b g S p p.sh.toNat w a aK aK (by simpa using h.2.2)
theorem Asu{f g:Nat->Bool}:∀(l:List Nat),(∀x∈l,f x=g x)->l.find? f=l.find? g
 | [],_=>rfl
 | a::l,h=>by
   rw[List.find?_cons,List.find?_cons,h a (by simp),Asu l λx b=>h x (by simp[b])]
theorem At6{f g:Nat->Bool}(h:∀i,i<b->f i=g i):Db f b=Db g b:=by
 unfold Db;rw[Asu (List.range b) λx a=>h x (by simpa using a)]
theorem Iw.apart{d:Array Value}{f:Nat×Nat}(i:Iw w b j h)(c:w.heap[k]? = some (.cells d 65 f)):some k≠j.ownBlock:=by
 intro a;rcases(Iw.own i).2 with⟨e,_⟩|⟨g,cap,cur,e,_,hg,_⟩
 .rw[e]at a;simp[Value.ownBlock]at a
 rw[e]at a;have:k=g:=by simpa[Value.ownBlock] using a
 subst this;rw[hg]at c;simp at c
theorem ElS.formS(h:ElS w b j c)(k:c.length=n)(g:0<n):∃d a e,j=.slice (some ⟨d,a,none⟩) n e/\n<=e/\SpS w (some ⟨d,a,none⟩) n c:=by
 subst k;obtain⟨A,e,rfl,i,f,-,-⟩:=h;obtain⟨d,a,rfl,-,-⟩:=f.at_ g;exact⟨d,a,e,rfl,i,f⟩
theorem ElS.sp(h:ElS w b (.slice e g k) c):SpS w e g c:=by
 obtain⟨f,i,a,-,d,-,-⟩:=h;injection a with e1 e2 e3
 subst e1 e2;exact d
def Asz(v:Value):Nat:=match v with | .slice _ m _=>m|_=>0
namespace Ears
theorem Axr{a b c q:P}(d:Du 1048576 a)(e:Du 1048576 b)(f:Du 1048576 c)(hq:Du 1048576 q)(D:0<cr a b c):Au6 a b c q<0↔¬InT a b c q:=by
 unfold Au6 InT;rw[Jt d e f,Jt d e hq,Jt e f hq,Jt f d hq];rw[Arz,Arz,Arz,Arz];have s:Ey (cr a b c) 0=1:=by unfold Ey;rw[if_neg aK,if_pos aK]
 rw[s,fZ,fZ,fZ];unfold Ey
 (repeat' split)<;>omega
theorem Awx{l:List P}(h:Good l)(d:b<l.length):Axe l l.length b=Gp l l.length b:=by
 have a:∀j,j<l.length->Du 1048576 (gt l j):=λj c=>h.near _ (fo c)
 have e:(b+1) % l.length<l.length:=bE _ aK;have f:(b+l.length-1) % l.length<l.length:=bE _ aK;unfold Axe Gp Vf;by_cases D:0<Bs (gt l ((b+l.length-1) % l.length)) (gt l b) (gt l ((b+1) % l.length))
 .rw[bV D,Bool.true_and,Bool.true_and];rw[Jt (a _ f) (a _ d) (a _ e),Arz]at D;refine Ix.congr λj c=>?_
  unfold frR frW
  congr 1
  rw[decide_eq_decide,Axr (a _ f) (a _ d) (a _ e) (a _ c) D,Asg (a _ f) (a _ d) (a _ e) (a _ c) D]
 rw[decide_eq_false D,Bool.false_and,Bool.false_and]
theorem ear_idx{l:List P}(g:l.length=b)(h:Good l):∃i:Nat,i<b/\Db (Axe l b) b=(i:Int)/\Db (Gp l b) b=(i:Int):=by
 subst g;have e:Db (Axe l l.length) l.length=Db (Gp l l.length) l.length:=At6 λi a=>Awx h a
 rcases Ik (Gp l l.length) l.length with c|⟨i,a,c⟩
 .exfalso;let⟨i,a,f⟩:=Ar8 h;have d:Bp (Gp l l.length) l.length=true:=Bp.iff.2 ⟨i,a,(Asb h a).2 f⟩;rw[<-Hy,c]at d;simp at d
 exact⟨i,a,e.trans c,c⟩
theorem good_str{l:List P}(k:l.length=b)(h:Good l)(e:3<b)(f:Db (Tl l b) b=(g:Int)):Good (l.eraseIdx g):=by
 subst k;let⟨d,c⟩:=Arw f;have a:∀j,j<l.length->Du 1048576 (gt l j):=λj i=>h.near _ (fo i)
 refine Ato h d e ?_;unfold Tl at c;rw[beq_iff_eq,Jt (a _ (bE _ aK)) (a _ d) (a _ (bE _ aK))]at c;exact c
theorem good_fr{l:List P}(j:l.length=b)(h:Good l)(e:3<b)(i:Db (Gp l b) b=(g:Int)):Good (l.eraseIdx g):=by
 subst j;let⟨a,c⟩:=Arw i;let⟨d,f⟩:=(Asb h a).1 c;exact Auh h a e d f
end Ears
theorem Ave(b P H n:Nat)(l:List (Int×Int))(w:World)(hl:n<=1000)(W:n<=H)(hs:SpS w (some ⟨b,P,none⟩) n l)(hc:Bg l n=0):Calls prog 126 #[.slice (some ⟨b,P,none⟩) n H] w (we w (De (Ct l n).length (Ct l n) [])):=by
 have Z:=qh l n;have M:=Auw b P H n l w hl W hs hc
 have K:Ears.Good (Ct l n):=by
  have:=Ears.normal_good (l:=l) (by rw[hs.1];exact hc);rw[hs.1]at this;exact this.1
 let⟨form,v⟩:∃form,form=Ct l n:=⟨_,rfl⟩
 rw[<-v]at M Z K ⊢;have T:=bF M;have S:=bF K;clear M v hc K;let⟨m,hm⟩:=gN form.length
 rw[hm]at Z ⊢;have HM:=bF hm;clear hm;go_enter func126,ntmps126
 go_wp2_with (go_at_call 181;refine T.out.mono ?_;rintro e w1 ⟨v1,rfl,a6,V⟩)
 go_loopw [4,6,7] (λs4 s6 _ wr=>∃(a:List (Int×Int)) (k f:Nat) (h:List (List (Int×Int))),Hid (a.length=k)/\Hid (Ears.Good a)/\3<=k/\k<=m/\h.length+k<=m/\ElS wr w s4 a/\Iw wr w s6 h/\Below w w wr/\k<=f/\Hid (De f a h=De m form [])) λs4 _ _ _=>Asz s4
 case atStart=>exact⟨form,m,m,[],HM,S,by have:=S.out.len;rw[HM.out]at this;exact this,aA,aL,OwS.els a6,Iw.nil,V,aA,bF rfl⟩
 clear T a6 V;obtain⟨a,k,f,h,s,HG,bs,bu,c0,hE,q,Q,bt,r⟩:=hrel;obtain⟨B,E,C,rfl,o,x⟩:=hE.formS s.out aK;by_cases Y:3<k
 .have q0:(3:Int)<(k:Int):=aK
  rcases Ik (Tl a k) k with L|⟨i,p,A⟩
  .obtain⟨i,p,X,J⟩:=Ears.ear_idx s.out HG.out;have g:=Qr (f:=f-1) (ts:=h) s.out (by rw[L];omega) J;rw[show f-1+1=f by omega]at g;have G:=bF (g.symm.trans r.out);have F:=bF (Ears.good_fr s.out HG.out Y J);have ai:=bF L;have a7:=bF X;have q1:¬(i:Int)<0:=aK
   clear g r L X J
   go_wp2_with (first
    | (go_at_call 185;have hz:=I;refine aF (Ase B E C k i a o au.sp p) λw5 v5 O u=>?_)
    | (at_builtin;refine Fo rfl w h (q.keep (Ao j)) w4 1 (.slice (some ⟨g4,0,none⟩) 3 3) (Ac6 a k i) 48 (Bf.new _ _ _) ((ElS.lower (OwS.els b2) a1).keep (Ao (aV _ _))) (bB Q.size (Ao j).size) ?_;intro v' wB N z U;have I:Below w w wB:=Bk (Ao (An Q j)) (Iw.own (q.keep (Ao j))) z;have au:ElS wB w (.slice (some ⟨B,E,none⟩) k C) a:=ElS.grown (hE.keep (Ao j)) z λk cs fr _ hh=>Iw.apart (q.keep (Ao j)) hh)
    | (go_at_call 184;have hz:=y;refine aF (Ar4 B E C k i a aK o ((x.keep c).keep y) p) λw4 g4 b2 aw=>?_;have j:=An (An c y) aw;have a1:w.heap.size<=w3.heap.size:=(An Q (An c y)).size)
    | (go_at_call 183;have hz:=c;refine rR (Awk B E C k a aK o (x.keep c)) λw3 y=>?_;rw[a7.out])
    | (go_at_call 182;refine rR (Atj B E C k a o x) λw2 c=>?_;rw[ai.out]))
   have t:ElS w5 w v5 (a.eraseIdx i):=ElS.lower (OwS.els O) I.size;have d:(a.eraseIdx i).length=k-1:=by rw[List.length_eraseIdx_of_lt (by rw[s.out];exact p),s.out]
   refine⟨⟨a.eraseIdx i,k-1,f-1,h++[Ac6 a k i],bF d,F,aK,aK,by rw[bA];simp;omega,t,N.keep u,An I u,aK,G⟩,?_⟩;obtain⟨b5,o5,c5,rfl,-,-⟩:=t.formS d aK;simp[Asz];omega
  have g:=Qp (f:=f-1) (ts:=h) s.out A;rw[show f-1+1=f by omega]at g;have G:=bF (g.symm.trans r.out);have F:=bF (Ears.good_str s.out HG.out Y A);have ad:=bF A;clear g r A
  go_wp2_with (first
   | (go_at_call 185;have hz:=c;refine aF (Ase B E C k i a o (x.keep c) p) λw5 v5 O u=>?_)
   | (go_at_call 182;refine rR (Atj B E C k a o x) λw2 c=>?_;rw[ad.out]))
  have hX:=An Q c;have t:ElS w5 w v5 (a.eraseIdx i):=ElS.lower (OwS.els O) hX.size;have d:(a.eraseIdx i).length=k-1:=by rw[List.length_eraseIdx_of_lt (by rw[s.out];exact p),s.out]
  refine⟨⟨a.eraseIdx i,k-1,f-1,h,bF d,F,aK,aK,aK,t,(q.keep c).keep u,An hX u,aK,G⟩,?_⟩;obtain⟨b5,o5,c5,rfl,-,-⟩:=t.formS d aK;simp[Asz];omega
 obtain rfl:k=3:=aK
 have D:=Qq (f:=f) (cur:=a) (ts:=h) (by rw[s.out];omega);have R:=bF (r.out.symm.trans D);clear D r
 go_wp2_with (at_builtin;refine Fo rfl w h (q.keep (Ao (aV _ _))) wr 1 (.slice (some ⟨B,E,none⟩) 3 C) a 48 (Bf.new _ _ _) (hE.keep (Ao (aV _ _))) (Ao Q).size ?_;intro v' w' N z U)
 go_ret2
 refine⟨Bk (Ao Q) (Iw.own (q.keep (Ao (aV _ _)))) z,?_⟩;rw[R.out];exact⟨v',rfl,N⟩
theorem Auu(A:Option Addr)(a n:Nat)(l:List (Int×Int))(w:World)(h:n<=9223372036854775807)(b:n<=a)(i:SpS w A n l)(g:¬Bg l n=0):Calls prog 126 #[.slice A n a] w λe j=>e=.returned (.tuple #[.slice none 0 0,(Bg l n)])/\Below w w j:=by
 have q:(Bg l n != 0)=true:=by rw[eT];exact g
 have c:=Aty A a n l w h b i g;have d:=bF c;clear c g;go_enter func126,ntmps126
 go_wp2_with (go_at_call 181;refine d.out.mono ?_;rintro e k ⟨rfl,f⟩)
 go_ret2
 exact⟨rfl,f⟩
theorem Asm(A:Option Addr)(a n:Nat)(l:List (Int×Int))(w:World)(o:n<=9223372036854775807)(c:n<=a)(i:SpS w A n l):Calls prog 126 #[.slice A n a] w (wg w (Bb l)):=by
 have j:=i.1;by_cases d:Bg l n=0
 .have r:=El d;obtain⟨b,m,rfl,-,-⟩:=i.at_ (k:=0) aK;refine(Ave b m a n l w aK c i d).mono ?_;rintro e q ⟨g,h⟩;cases hsp:De (Ct l n).length (Ct l n) [] with
  | none =>
    have f:Bb l=(11,[]):=by unfold Bb;rw[j,if_pos d,hsp]
    rw[hsp]at h;rw[f];exact⟨_,h,Iw.nil,g⟩
  | some ts =>
    have f:Bb l=(0,ts):=by unfold Bb;rw[j,if_pos d,hsp]
    rw[hsp]at h;obtain⟨v,rfl,p⟩:=h;rw[f];exact⟨v,rfl,p,g⟩
 refine rR (Auu A a n l w o c i d) λq g=>?_;have f:Bb l=(Bg l n,[]):=by unfold Bb;rw[j,if_neg d]
 rw[f];exact⟨_,rfl,Iw.nil,g⟩
theorem Axd{ls:List (List (Int×Int))}{i:Nat}(h:i<ls.length):lt_ ls i∈ls:=List.mem_of_getElem? (O7 h)
theorem Atd{b a c d:Int}:Calls prog 350 #[.agg #[f,l],.agg #[b,a],.agg #[c,d]] w λe g=>e=.returned (Ey (Bs (f,l) (b,a) (c,d)) 0)/\Below w w g:=by
 go_enter func350,ntmps350;go_wp2;all_goals go_ret
 all_goals exact⟨Bm (by show _=Ey (Bs (f,l) (b,a) (c,d)) 0;unfold Ey Bs;dsimp only;(repeat split)<;>omega),(Ao (Ao (Ao (aV _ _))))⟩
theorem At1(c d g f:Int)(A:Option Addr)(t n:Nat)(l:List (Int×Int))(w:World)(I:n<=1000000)(D:SpS w A n l):Calls prog 306 #[.agg #[c,d],.agg #[g,f],.slice A n t] w λe F=>e=.returned (.bool (Au8 (c,d) (g,f) l n))/\Below w w F:=by
 go_enter func306,ntmps306;go_wp2;go_loopw [7] (λi wr=>∃j:Nat,j<=n/\i=j/\Hid (Ix (λi=>decide (Ey (Bs (c,d) (g,f) (gt l i)) 0<=0)) j=true)/\Cls w [(⟨w,0,none⟩,c),(⟨w,1,none⟩,d),(⟨w+1,0,none⟩,g),(⟨w+1,1,none⟩,f)] wr) λi _=>n-(intOf i).toNat
 case atStart=>exact⟨0,aB,rfl,bF (Ix.zero _),(Ao (Ao (aV _ _))),aR⟩
 obtain⟨j,H,rfl,z,o⟩:=hrel;by_cases p:j<n
 .obtain⟨b,m,rfl,-,r⟩:=(D.keep o.1).at_ p;let⟨x,y⟩:=r j p;clear r;have q:=o.2;simp only[AC]at q;have J:(j:Int)<(n:Int):=aK
  by_cases s:0<Ey (Bs (c,d) (g,f) ((gt l j).1,(gt l j).2)) 0
  .have C:decide (0<Ey (Bs (c,d) (g,f) ((gt l j).1,(gt l j).2)) 0)=true:=bV s
   go_wp2_with fail;refine Bh w [(⟨b,m+j*2,none⟩,(gt l j).1),(⟨b,m+j*2+1,none⟩,(gt l j).2),(⟨w,0,none⟩,c),(⟨w,1,none⟩,d),(⟨w+1,0,none⟩,g),(⟨w+1,1,none⟩,f)] ⟨o.1,aR⟩ ?_
   repeat
    apply Cx
    .rfl
    .intro G k;have q:=k.2;simp only[AC]at q
     go_simp
     first|rfl|exact Bw k (Atd)
    go_simp
   refine cH ?_;intro B a;have v:=a.1;clear a x y q o;go_wp2;go_ret;exact⟨Bn (show Au8 (c,d) (g,f) l n=false from Ix.no p (decide_eq_false (show ¬Ey (Bs (c,d) (g,f) (gt l j)) 0<=0 from λh=>by have E:0<Ey (Bs (c,d) (g,f) (gt l j)) 0:=s;omega))).symm,v⟩
  have C:decide (0<Ey (Bs (c,d) (g,f) ((gt l j).1,(gt l j).2)) 0)=false:=decide_eq_false s
  go_wp2_with fail;refine Bh w [(⟨b,m+j*2,none⟩,(gt l j).1),(⟨b,m+j*2+1,none⟩,(gt l j).2),(⟨w,0,none⟩,c),(⟨w,1,none⟩,d),(⟨w+1,0,none⟩,g),(⟨w+1,1,none⟩,f)] ⟨o.1,aR⟩ ?_
  repeat
   apply Cx
   .rfl
   .intro G k;have q:=k.2;simp only[AC]at q
    go_simp
    first|rfl|exact Bw k (Atd)
   go_simp
  refine cH ?_;intro B a;have u:Cls w [(⟨w,0,none⟩,c),(⟨w,1,none⟩,d),(⟨w+1,0,none⟩,g),(⟨w+1,1,none⟩,f)] B:=⟨a.1,a.2.2.2⟩;clear a x y q o;go_wp2_with fail;exact aE ⟨bF (Ix.succ z.out (bV (show Ey (Bs (c,d) (g,f) (gt l j)) 0<=0 from s))),u⟩
 obtain rfl:n=j:=aK
 go_wp2;go_ret;exact⟨Bn (show Au8 (c,d) (g,f) l n=true from z.out).symm,o.1⟩
theorem Ar1(a h:List (Int×Int))(K:k<=1000000)(y:nb<=1000000)(q:SpS w e k a)(r:SpS w B nb h):Calls prog 242 #[.slice e k b,.slice B nb g] w λJ t=>J=.returned (.bool (Awd a h))/\Below w w t:=by
 have I:=bF (show Awd a h=Bp (λi=>Au8 (gt a i) (gt a ((i+1) % k)) h nb) k by unfold Awd;rw[q.1,r.1]);rw[I.out];go_enter func242,ntmps242;go_wp2;go_loopw [5] (λi wr=>∃j:Nat,j<=k/\i=j/\Hid (Bp (λi=>Au8 (gt a i) (gt a ((i+1) % k)) h nb) j=false)/\Below w w wr) λi _=>k-(intOf i).toNat
 case atStart=>exact⟨0,aB,rfl,bF (Bp.zero _),aV _ _⟩
 obtain⟨j,N,rfl,F,p⟩:=hrel;by_cases o:j<k
 .obtain⟨l,d,rfl,-,n⟩:=(q.keep p).at_ o;have x:(j+1) % k<k:=bE _ aK;let⟨A,C⟩:=n j o;let⟨D,E⟩:=n _ x;clear n;have G:=Q6 ((j:Int)+1) (j+1) k;have H:IntKind.i64.wrap ((j:Int)+1)=(j:Int)+1:=Dx j 1;have O:¬k=0:=aK
  have P:(j:Int)<(k:Int):=aK
  have s:=bF λ(t:World) (v:Below wr wr t)=>At1 (gt a j).1 (gt a j).2 (gt a ((j+1) % k)).1 (gt a ((j+1) % k)).2 B g nb h t y (r.keep (An p v));cases hv:Au8 ((gt a j).1,(gt a j).2) ((gt a ((j+1) % k)).1,(gt a ((j+1) % k)).2) h nb with
  | true =>
    rw[hv]at s;have u:=bF (show Au8 (gt a j) (gt a ((j+1) % k)) h nb=true from hv);clear hv;go_wp2_with fail;refine Bh wr [(⟨l,d+j*2,none⟩,(gt a j).1),(⟨l,d+j*2+1,none⟩,(gt a j).2),(⟨l,d+(j+1) % k*2,none⟩,(gt a ((j+1) % k)).1),(⟨l,d+(j+1) % k*2+1,none⟩,(gt a ((j+1) % k)).2)] ⟨(aV _ _),aR⟩ ?_
    repeat
     apply Cx
     .rfl
     .intro L f;have z:=f.2;simp only[AC]at z
      go_simp
      first|rfl|exact Bw f (s.out _ f.1)
     go_simp
    refine cH ?_;intro M c;have m:=An p c.1;clear c A C D E G H;go_wp2;go_ret;exact⟨Bn (Bp.yes o u.out).symm,m⟩
  | false =>
    rw[hv]at s;have u:=bF (show Au8 (gt a j) (gt a ((j+1) % k)) h nb=false from hv);clear hv;go_wp2_with fail;refine Bh wr [(⟨l,d+j*2,none⟩,(gt a j).1),(⟨l,d+j*2+1,none⟩,(gt a j).2),(⟨l,d+(j+1) % k*2,none⟩,(gt a ((j+1) % k)).1),(⟨l,d+(j+1) % k*2+1,none⟩,(gt a ((j+1) % k)).2)] ⟨(aV _ _),aR⟩ ?_
    repeat
     apply Cx
     .rfl
     .intro L f;have z:=f.2;simp only[AC]at z
      go_simp
      first|rfl|exact Bw f (s.out _ f.1)
     go_simp
    refine cH ?_;intro M c;have m:=An p c.1;clear c A C D E G H;go_wp2_with fail;exact aE ⟨bF (Bp.succ F.out u.out),m⟩
 obtain rfl:k=j:=aK
 go_wp2;go_ret;exact⟨Bn F.out.symm,p⟩
theorem Aux(A B:Option Addr)(m n l nb:Nat)(a b:List (Int×Int))(w:World)(d:l<=1000000)(f:nb<=1000000)(g:SpS w A l a)(h:SpS w B nb b):Calls prog 186 #[.slice A l m,.slice B nb n] w λe o=>e=.returned (.bool (Au7 a b))/\Below w w o:=by
 have i:=bF (show Au7 a b=(!Awd a b&&!Awd b a) from rfl);cases hv:Awd a b with
 | true =>
   have j:=bF hv;rw[hv]at i;clear hv;go_enter func186,ntmps186
   go_wp2_with (go_at_call 242;refine rR (Ar1 a b d f g h) λp c=>?_;rw[j.out])
   go_ret;exact⟨Bn i.out.symm,c⟩
 | false =>
   have j:=bF hv;rw[hv]at i;clear hv;go_enter func186,ntmps186
   go_wp2_with (first
    | (go_at_call 242;have q:=c;refine rR (Ar1 b a f d (h.keep c) (g.keep c)) λr k=>?_)
    | (go_at_call 242;refine(Ar1 a b d f g h).mono ?_;rintro e p ⟨rfl,c⟩;rw[j.out]))
   go_ret;exact⟨Bn i.out.symm,An c k⟩
theorem Avf(a j:List (List (Int×Int)))(X:k<=1000000)(Y:nb<=1000000)(x:∀t∈a,t.length<=1000000)(y:∀t∈j,t.length<=1000000)(p:Aeg w e k a)(q:Aeg w B nb j):Calls prog 127 #[.slice e k b,.slice B nb g] w λW A=>W=.returned (.bool (Ayc a j))/\Below w w A:=by
 have G:=bF p.1;have H:=bF q.1;have V:=bF (show Ayc a j=Bp (λi=>Bp (λc=>Au7 (lt_ a i) (lt_ j c)) nb) k by unfold Ayc;rw[p.1,q.1]);rw[V.out];have D:=bF x;have E:=bF y;clear x y;go_enter func127,ntmps127;go_wp2;go_loopw [5] (λs wr=>∃i:Nat,i<=k/\s=i/\Hid (Bp (λi=>Bp (λc=>Au7 (lt_ a i) (lt_ j c)) nb) i=false)/\Below w w wr) λi _=>k-(intOf i).toNat
 case atStart=>exact⟨0,aB,rfl,bF (Bp.zero _),aV _ _⟩
 obtain⟨i,hi,rfl,P,l⟩:=hrel;by_cases o:i<k
 .have z1:(i:Int)<(k:Int):=aK
  have r:=D.out _ (Axd (ls:=a) (i:=i) (by rw[G.out];exact o))
  go_wp2_with fail;obtain⟨S,rfl⟩:∃S:World,S=wr:=⟨_,rfl⟩
  go_loopw [6] (λs wr=>∃c:Nat,c<=nb/\s=c/\Hid (Bp (λc=>Au7 (lt_ a i) (lt_ j c)) c=false)/\Below w w wr) λi _=>nb-(intOf i).toNat
  case atStart=>exact⟨0,aB,rfl,bF (Bp.zero _),l⟩
  clear l;obtain⟨c,hk,rfl,hq,l⟩:=hrel;by_cases n:c<nb
  .obtain⟨N,Q,C,I,rfl,-,x1,-,T,-⟩:=(p.keep l).at_ o;obtain⟨O,R,Bk,J,rfl,-,y1,-,U,-⟩:=(q.keep l).at_ n;have u:=E.out _ (Axd (ls:=j) (i:=c) (by rw[H.out];exact n));let⟨xl,L⟩:=gN ((lt_ a i).length)
   let⟨yl,M⟩:=gN ((lt_ j c).length)
   rw[L]at x1 T r;rw[M]at y1 U u;have z2:(c:Int)<(nb:Int):=aK
   have z:=bF λ(A:World) (v:Below wr wr A)=>Aux C Bk I J xl yl (lt_ a i) (lt_ j c) A r u (T.keep v) (U.keep v);cases hv:Au7 (lt_ a i) (lt_ j c) with
   | true =>
     rw[hv]at z;have F:=bF (show Bp (λi=>Bp (λc=>Au7 (lt_ a i) (lt_ j c)) nb) k=true from Bp.yes (f:=λi=>Bp (λc=>Au7 (lt_ a i) (lt_ j c)) nb) o (Bp.yes (f:=λc=>Au7 (lt_ a i) (lt_ j c)) n hv));clear hv;go_wp2_with fail;refine Bh wr [(⟨N,Q+i,none⟩,.slice C xl I),(⟨O,R+c,none⟩,.slice Bk yl J)] ⟨(aV _ _),aR⟩ ?_
     repeat
      apply Cx
      .rfl
      .intro Z h;have K:=h.2;simp only[AC]at K
       go_simp
       first|rfl|exact Bw h (z.out _ h.1)
      go_simp
     refine cH ?_;intro wy d;have m:=d.1;clear d;go_wp2;go_ret;exact⟨Bn F.out.symm,An l m⟩
   | false =>
     rw[hv]at z;have F:=bF hv;clear hv;go_wp2_with fail;refine Bh wr [(⟨N,Q+i,none⟩,.slice C xl I),(⟨O,R+c,none⟩,.slice Bk yl J)] ⟨(aV _ _),aR⟩ ?_
     repeat
      apply Cx
      .rfl
      .intro Z h;have K:=h.2;simp only[AC]at K
       go_simp
       first|rfl|exact Bw h (z.out _ h.1)
      go_simp
     refine cH ?_;intro wy d;have m:=d.1;clear d;go_wp2_with fail;exact aE ⟨bF (Bp.succ hq.out F.out),An l m⟩
  obtain rfl:nb=c:=aK
  go_wp2_with fail;exact aE ⟨bF (Bp.succ P.out hq.out),l⟩
 obtain rfl:k=i:=aK
 go_wp2;go_ret;exact⟨Bn P.out.symm,l⟩
theorem At0(A B:Option Addr)(m n d nb:Nat)(a b:List (Int×Int))(w:World)(i:d<=9223372036854775807)(j:nb<=9223372036854775807)(g:d<=m)(h:nb<=n)(k:SpS w A d a)(l:SpS w B nb b)(o:Bg a d=0)(p:Bg b nb=0):Calls prog 125 #[.slice A d m,.slice B nb n] w λe s=>e=.returned (.int .i64 0)/\Below w w s:=by
 have q:=bF o;have r:=bF p;clear o p;go_enter func125,ntmps125
 go_wp2_with (first
  | (go_at_call 70;have t:=c;refine rR (Hr _ b (hl:=j) h (l.keep c)) λv f=>?_;rw[r.out])
  | (go_at_call 70;refine(Hr _ a (hl:=i) g k).mono ?_;rintro e u ⟨rfl,c⟩;rw[q.out]))
 go_ret;exact⟨rfl,An c f⟩
theorem Atw(A B:Option Addr)(p q j nb:Nat)(a b:List (Int×Int))(w:World)(n:j<=9223372036854775807)(o:nb<=9223372036854775807)(l:j<=p)(m:nb<=q)(h:SpS w A j a)(i:SpS w B nb b)(u:Bg a j=0)(v:Bg b nb=0):Calls prog 84 #[.slice A j p,.slice B nb q] w λe k=>e=.returned (.tuple #[.bool (Gm a b).1,(Gm a b).2])/\Below w w k:=by
 rw[Atm (a:=a) (b:=b) (by rw[h.1];exact u) (by rw[i.1];exact v)];have K:=Dg a;have s2:=Dg b;have L:=bF (At0 A B p q j nb a b w n o l m h i u v);clear u v;let⟨x,H⟩:=gN (Bb a)
 let⟨y,I⟩:=gN (Bb b)
 have F:=bF λ(k:World) (d:Below w w k)=>Asm A p j a k n l (h.keep d);have G:=bF λ(k:World) (d:Below w w k)=>Asm B q nb b k o m (i.keep d);rw[H]at K F ⊢;rw[I]at s2 G ⊢;clear H I;go_enter func84,ntmps84
 go_wp2_with (first
  | (go_at_call 127;have J:=g;refine rR (Avf x.2 y.2 aK aK (λt E=>by have:=K.2 t E;omega) (λt E=>by have:=s2.2 t E;omega) (r.keep g) s) λV z=>?_)
  | (go_at_call 126;have J:=f;refine aF (G.out _ (An c f)) λU R D g=>?_;obtain⟨N,P,rfl,-,s,-⟩:=D.spss)
  | (go_at_call 126;have J:=c;refine aF (F.out _ c) λT Q C f=>?_;obtain⟨M,O,rfl,-,r,-⟩:=C.spss)
  | (go_at_call 125;refine L.out.mono ?_;rintro e S ⟨rfl,c⟩))
 go_ret2
 exact⟨rfl,An (An (An c f) g) z⟩
theorem Atx(s:Bed4)(l:List (Int×Int))(G:SpS w e g l)(O:g<=1000000:=by omega):Calls prog 82 #[Jw s,.slice e g b] w λE L=>E=.returned (.bool (!Bp (λi=>Ou s (gt l i)) g))/\Below w w L:=by
 obtain⟨len,a,rx,r⟩:=s;unfold Jw;dsimp only;go_enter func82,ntmps82;go_wp2;go_loopw [5] (λi wr=>∃j:Nat,j<=g/\i=j/\Hid (Bp (λi=>Ou ⟨len,a,rx,r⟩ (gt l i)) j=false)/\Cls w [(⟨w,0,none⟩,len),(⟨w,1,none⟩,a)] wr) λi _=>g-(intOf i).toNat
 case atStart=>exact⟨0,aB,rfl,bF (Bp.zero _),(Ao (aV _ _)),aR⟩
 obtain⟨j,N,rfl,C,h⟩:=hrel;by_cases d:j<g
 .obtain⟨y,n,rfl,-,m⟩:=(G.keep h.1).at_ d;let⟨z,A⟩:=m j d;clear m;have q:=h.2;simp only[AC]at q;have Q:(j:Int)<(g:Int):=aK
  have f:=bF (show Ou ⟨len,a,rx,r⟩ (gt l j)=(decide ((gt l j).1<0) || decide (len<(gt l j).1) || decide ((gt l j).2<0) || decide (a<(gt l j).2)) from rfl);let⟨v,p⟩:=gN (gt l j)
  have D:=bF p;rw[p]at z A;replace f:=bF (show Ou ⟨len,a,rx,r⟩ (gt l j)=(decide (v.1<0) || decide (len<v.1) || decide (v.2<0) || decide (a<v.2)) by rw[f.out,p]);clear p;let⟨H,F⟩:=gN (decide (v.1<0))
  let⟨I,B⟩:=gN (decide (len<v.1))
  let⟨J,t⟩:=gN (decide (v.2<0))
  let⟨K,o⟩:=gN (decide (a<v.2))
  rw[F,B,t,o]at f;cases H
  case' true=>clear B t o
  case' false =>
   cases I
   case' true=>clear t o
   case' false =>
    cases J
    case' true=>clear o
    case' false=>cases K
  all_goals
   go_wp2_with fail;refine Bh w [(⟨y,n+j*2,none⟩,v.1),(⟨y,n+j*2+1,none⟩,v.2),(⟨w,0,none⟩,len),(⟨w,1,none⟩,a)] ⟨h.1,aR⟩ ?_
   repeat
    first
    | go_big_quiet_skip
    | go_big_quiet_want
      apply Exists.intro;refine And.intro ?_ ?_
      .intro P x;have q:=x.2;simp only[AC]at q
       go_simp
       first|rfl
      go_simp
      go_big_quiet_on
   refine cH ?_;intro M c;have k:Cls w [(⟨w,0,none⟩,len),(⟨w,1,none⟩,a)] M:=⟨c.1,c.2.2.2⟩;clear c z A q h;go_wp2_with fail
  all_goals first
   | (go_ret;exact⟨Bn (show (!Bp (λi=>Ou ⟨len,a,rx,r⟩ (gt l i)) g)=false by rw[Bp.yes d f.out];rfl).symm,k.1⟩)
   | exact aE ⟨Ar (Bp.succ C.out f.out),k⟩
 obtain rfl:g=j:=aK
 go_wp2;go_ret;exact⟨Bn (by rw[C.out];rfl),h.1⟩
theorem Ar5{rx:Int}(P:Bool){r s:Int}(p:Pt5):Calls prog 83 #[.agg #[rx,f],.agg #[.slice e b g,l,.bool P,r,s],L7 p] w λo w'=>o=.returned (.bool (!P || Aaj rx f (r,s) p))/\Below w w w':=by
 obtain⟨sh,G,I,x,y⟩:=p;unfold L7;dsimp only;cases P with
 | false =>
   go_enter func83,ntmps83;go_wp2;go_ret;exact⟨rfl,(Ao (Ao (Ao (aV _ _))))⟩
 | true =>
   let⟨E,k⟩:∃E,E=(((w.alloc (.cells #[rx,f] 31)).alloc (.cells #[.slice e b g,l,.bool true,r,s] 85)).alloc (.cells #[sh,.bool G,I,x,y] 72)):=⟨_,rfl⟩
   have h0:Bf E w 31 #[rx,f]:=by rw[k];exact((Bf.new _ _ _).alloc _).alloc _
   have h1:Bf E (w+1) 85 #[.slice e b g,l,.bool true,r,s]:=by rw[k];exact(Bf.new2 _ _ _ _).alloc _
   have h2:Bf E (w+1+1) 72 #[sh,.bool G,I,x,y]:=by rw[k];exact Bf.new3 _ _ _ _ _
   have H:Below w w E:=by rw[k];exact(Ao (Ao (Ao (aV _ _))))
   have K:=bF h0;have L:=bF h1;have M:=bF h2;have t:=bF H;subst k;clear h0 h1 h2 H;have j:True:=trivial;cases ho:Cc 1048576 (r,s) with
   | true =>
     have i:=bF (show Aaj rx f (r,s) ⟨sh,G,I,x,y⟩=false by unfold Aaj;rw[ho];rfl);have J:=bF ho;clear ho;go_enter func83,ntmps83
     go_wp2_with (go_at_call 123;have _t:=j;refine rR (Aq2) λw1 a=>?_;rw[J.out];clear j;have q:=K.out.keep a;have n:=L.out.keep a;have h:=M.out.keep a;let⟨R,S,T,U,V,W⟩:=n.cells5;let⟨X,Y,Z,b4,b5,b6⟩:=h.cells5)
     go_ret;exact⟨Bn (by rw[i.out];rfl),An t.out a⟩
   | false =>
     have J:=bF ho;let⟨O,v⟩:=gN (Cd G I (r,s))
     obtain⟨z,A⟩:=O;have F:=bF v;have i:=bF (show Aaj rx f (r,s) ⟨sh,G,I,x,y⟩=(!Cc 1048576 (wrap64 (z+x),wrap64 (A+y))&&Ae7 rx f (wrap64 (z+x)) (wrap64 (A+y)) 0 0) by unfold Aaj;rw[ho,v];rfl);clear v ho;cases ho2:Cc 1048576 (wrap64 (z+x),wrap64 (A+y)) with
     | true =>
       have u:=bF ho2;rw[ho2]at i;clear ho2;go_enter func83,ntmps83
       go_wp2_with (first|(go_at_call 123;have _t2:=c;refine rR (Aq2) λw3 d=>?_;rw[u.out];have B:=((m.alloc _).alloc _).keep d;have D:=Bf.keep (Bf.new2 Q (.cells #[z,A] 65) 65 #[(wrap64 (z+x)),(wrap64 (A+y))]) d;let⟨m1,m2,m3,m4,m5⟩:=B.pair;let⟨r1,r2,r3,r4,r5⟩:=D.pair)|(go_at_call 44;refine rR (L6) λQ c=>?_;rw[F.out];have m:=q.keep c;have C:=h.keep c;let⟨c1,c2,c3,c4,c5,c6⟩:=C.cells5;let⟨n1,n2,n3,n4,n5⟩:=m.pair)|(go_at_call 123;have _t:=j;refine rR (Aq2) λw1 a=>?_;rw[J.out];clear j;have q:=K.out.keep a;have n:=L.out.keep a;have h:=M.out.keep a;let⟨R,S,T,U,V,W⟩:=n.cells5;let⟨X,Y,Z,b4,b5,b6⟩:=h.cells5))
       go_ret;exact⟨Bn (by rw[i.out];rfl),An (Ao (Ao (An (An t.out a) c))) d⟩
     | false =>
       have u:=bF ho2;rw[ho2]at i;clear ho2;go_enter func83,ntmps83
       go_wp2_with (first|(go_at_call 124;refine rR (Avg) λw4 N=>?_)|(go_at_call 123;have _t2:=c;refine rR (Aq2) λw3 d=>?_;rw[u.out];have B:=((m.alloc _).alloc _).keep d;have D:=Bf.keep (Bf.new2 Q (.cells #[z,A] 65) 65 #[(wrap64 (z+x)),(wrap64 (A+y))]) d;let⟨m1,m2,m3,m4,m5⟩:=B.pair;let⟨r1,r2,r3,r4,r5⟩:=D.pair)|(go_at_call 44;refine rR (L6) λQ c=>?_;rw[F.out];have m:=q.keep c;have C:=h.keep c;let⟨c1,c2,c3,c4,c5,c6⟩:=C.cells5;let⟨n1,n2,n3,n4,n5⟩:=m.pair)|(go_at_call 123;have _t:=j;refine rR (Aq2) λw1 a=>?_;rw[J.out];clear j;have q:=K.out.keep a;have n:=L.out.keep a;have h:=M.out.keep a;let⟨R,S,T,U,V,W⟩:=n.cells5;let⟨X,Y,Z,b4,b5,b6⟩:=h.cells5))
       go_ret;exact⟨Bn (by rw[i.out];rfl),An (An (Ao (Ao (An (An t.out a) c))) d) N⟩
theorem Axn(f g:Option Addr)(i j k l:Nat)(b:Bed4)(S:List Shp)(q:List Pt5)(p:Pt5)(w:World)(d:Gg b=true):Calls prog 49 #[Jw b,.slice f k i,.slice g l j,L7 p] w λe n=>e=.returned (.int .i64 3)/\Below w w n:=by
 have h:=bF d;clear d;obtain⟨sh,o,r,x,y⟩:=p;obtain⟨len,c,rx,m⟩:=b;unfold L7 Jw;dsimp only;go_enter func49,ntmps49
 go_wp2_with (go_at_call 79;refine rR (Arl ⟨len,c,rx,m⟩) λs a=>?_;rw[h.out])
 go_ret;exact⟨rfl,An (Ao (Ao (aV _ _))) a⟩
theorem Axm(i q:Option Addr)(v z m C:Nat)(b:Bed4)(S:List Shp)(K:List Pt5)(p:Pt5)(w:World)(A:ShS w i m S)(k:Gg b=false)(l:¬(Br S p).1=0):Calls prog 49 #[Jw b,.slice i m v,.slice q C z,L7 p] w λe D=>e=.returned (Br S p).1/\Below w w D:=by
 have c:((Br S p).1 != 0)=true:=by simpa using l
 clear l;have t:=bF k;clear k;obtain⟨len,d,rx,o⟩:=b;let⟨r,g⟩:=gN (Br S p)
 rw[g]at c ⊢;have u:=bF g;clear g;obtain⟨L,M⟩:=r;dsimp only at c ⊢;obtain⟨sh,j,n,x,y⟩:=p;have s:=bF (Bf.new2 w (.cells #[len,d,rx,o] 62) 72 #[sh,.bool j,n,x,y]);unfold L7 Jw;dsimp only;go_enter func49,ntmps49
 go_wp2_with (first
  | (go_at_call 80;refine aF (Ara S ⟨sh,j,n,x,y⟩ (A.keep (An (Ao (Ao (aV _ _))) a))) λP N B f=>?_;rw[u.out])
  | (go_at_call 79;refine rR (Arl ⟨len,d,rx,o⟩) λO a=>?_;rw[t.out];have h:=s.out.keep a;let⟨E,F,G,H,I,J⟩:=h.cells5))
 go_ret;exact⟨rfl,An (An (Ao (Ao (aV _ _))) a) f⟩
theorem Axl(A1 A2:Option Addr)(c1 c2 n1 D:Nat)(b:Bed4)(S:List Shp)(B:List Pt5)(p:Pt5)(w:World)(kl:D<=1000000)(hS:ShS w A1 n1 S)(eg:PuS w A2 D B)(hb:Gg b=false)(hp:(Br S p).1=0):Calls prog 49 #[Jw b,.slice A1 n1 c1,.slice A2 D c2,L7 p] w λe w'=>e=.returned (so b S B p (shp S p.sh.toNat) (Br S p).2)/\Below w w w':=by
 let⟨k,hk,ew,ey⟩:=Yl hp;have bd:=Oo hp;rw[ey];clear ey;have HB:=bF hb;clear hb;obtain⟨len,u,rx,E⟩:=b;have cj:=F9 S p;let⟨r,hr⟩:=gN (Br S p)
 rw[hr]at hp cj bd ⊢;have HR:=bF hr;clear hr;obtain⟨r1,r⟩:=r;dsimp only at hp cj bd ⊢;subst hp;have bs:=bF bd;clear bd;obtain⟨sh,F,O,x,y⟩:=p;dsimp only at hk;subst hk;have hg:k<n1:=by rw[<-hS.1];exact ew
 have jr:=hS.2.1;clear ew;obtain⟨ba,oa,rfl,eo,Ak,ck,g1,g2,g3,g4,g5,g6,g7,g8,g9⟩:=hS.at_ hg;let⟨s,hs⟩:=gN (shp S k)
 rw[hs]at g1 g2 g4 g6 g7 g8 g9 ⊢;clear hs;obtain⟨pl,gr,M,⟨ax,ay⟩⟩:=s;dsimp only at g1 g2 g4 g6 g7 g8 g9;let⟨N,bm⟩:=gN pl.length
 rw[bm]at g1 g2 g4;clear bm g4 g2;unfold L7 Jw;dsimp only;let⟨c0,Y⟩:=gN (so ⟨len,u,rx,E⟩ S B ⟨(k:Int),F,O,x,y⟩ ⟨pl,gr,M,(ax,ay)⟩ r)
 rw[Y];have c:=bF (show c0=if Acf gr false F O=false then 12 else if Bp (λi=>Ou ⟨len,u,rx,E⟩ (gt r i)) r.length then 13 else if M&&!Aaj rx E (ax,ay) ⟨(k:Int),F,O,x,y⟩ then 15 else J3 S r B B.length from Y.symm);clear Y;let⟨nr,cd⟩:=gN r.length
 have da:=bF cd;rw[cd]at cj c bs;clear cd;let⟨W2,bc⟩:∃W2,W2=((w.alloc (.cells #[len,u,rx,E] 62)).alloc (.cells #[k,.bool F,O,x,y] 72)):=⟨_,rfl⟩
 have h0:Bf W2 w 62 #[len,u,rx,E]:=by rw[bc];exact(Bf.new _ _ _).alloc _
 have h1:Bf W2 (w+1) 72 #[k,.bool F,O,x,y]:=by rw[bc];exact Bf.new2 _ _ _ _
 have er:Below w w W2:=by rw[bc];exact(Ao (Ao (aV _ _)))
 have H0:=bF h0;have H1:=bF h1;have bq:=bF er;subst bc;clear h0 h1 er;cases ha:Acf gr false F O with
 | false =>
   rw[if_pos ha]at c;have HA:=bF ha;clear ha;go_enter func49,ntmps49
   go_wp2_with (first|(go_at_call 81;refine rR (Ar6) λw3 A=>?_;rw[HA.out])|(go_at_call 80;have _t:=o;refine aF (Ara S ⟨(k:Int),F,O,x,y⟩ (hS.keep v)) λw2 v2 m z=>?_;rw[HR.out]at m ⊢;clear P Q R T U b1 b2 b3 b4 b5 b6;have Z:=K.keep z;have a6:=L.keep z;let⟨P,Q,R,T,U⟩:=Z.cells4;let⟨b1,b2,b3,b4,b5,b6⟩:=a6.cells5;have g:=An v z;have e1:=Aq g g1;have e2:=Aq g g6;have e3:=Aq g g7;have e4:=Aq g g8;have e5:=Aq g g9)|(go_at_call 79;refine rR (Arl ⟨len,u,rx,E⟩) λw1 o=>?_;rw[HB.out];have K:=H0.out.keep o;have L:=H1.out.keep o;let⟨P,Q,R,T,U⟩:=K.cells4;let⟨b1,b2,b3,b4,b5,b6⟩:=L.cells5;have v:=An bq.out o))
   go_ret;exact⟨Bm c.out.symm,An (Ao g) A⟩
 | true =>
   rw[if_neg (by rw[ha];simp)] at c;have HA:=bF ha;clear ha;go_enter func49,ntmps49
   go_upto_region 9 with (first|(go_at_call 81;refine rR (Ar6) λw3 A=>?_;rw[HA.out])|(go_at_call 80;have _t:=o;refine aF (Ara S ⟨(k:Int),F,O,x,y⟩ (hS.keep v)) λw2 v2 m z=>?_;rw[HR.out]at m ⊢;clear P Q R T U b1 b2 b3 b4 b5 b6;have Z:=K.keep z;have a6:=L.keep z;let⟨P,Q,R,T,U⟩:=Z.cells4;let⟨b1,b2,b3,b4,b5,b6⟩:=a6.cells5;have g:=An v z;have e1:=Aq g g1;have e2:=Aq g g6;have e3:=Aq g g7;have e4:=Aq g g8;have e5:=Aq g g9)|(go_at_call 79;refine rR (Arl ⟨len,u,rx,E⟩) λw1 o=>?_;rw[HB.out];have K:=H0.out.keep o;have L:=H1.out.keep o;let⟨P,Q,R,T,U⟩:=K.cells4;let⟨b1,b2,b3,b4,b5,b6⟩:=L.cells5;have v:=An bq.out o))
   have C:Below w w w3:=An (Ao g) A;have K0:=(Z.alloc (.cells #[.slice Ak N ck,gr,.bool M,ax,ay] 85)).keep A;have K1:=(a6.alloc (.cells #[.slice Ak N ck,gr,.bool M,ax,ay] 85)).keep A;have K2:=(Bf.new w2 85 #[.slice Ak N ck,gr,.bool M,ax,ay]).keep A;have fb:=OwG.keep (OwG.alloc m (.cells #[.slice Ak N ck,gr,.bool M,ax,ay] 85)) A;let⟨cx,bl⟩:∃cx,cx=w2.heap.size:=⟨_,rfl⟩
   rw[<-bl]at K2 ⊢;obtain⟨A9,c9,rfl,ev,G,-,-⟩:=OwS.els fb;rw[da.out]at ev G ⊢;have ca:=hS.keep C;have b9:=eg.keep C;have bt:=bF K0;have cy:=bF K1;have cz:=bF K2;clear m fb P Q R T U b1 b2 b3 b4 b5 b6 e1 e2 e3 e4 e5 K L Z a6 o z A g v _t bl K0 K1 K2 g1 g6 g7 g8 g9 eo hS eg H0 H1 bq;let⟨P,Q,R,T,U⟩:=bt.out.cells4;cases hon:Bp (λi=>Ou ⟨len,u,rx,E⟩ (gt r i)) nr with
   | true =>
     rw[if_pos hon]at c;have a7:=bF hon;clear hon
     go_wp2_with (go_at_call 82;refine rR (Atx ⟨len,u,rx,E⟩ r G) λw4 f=>?_;rw[a7.out])
     go_ret;exact⟨Bm c.out.symm,An C f⟩
   | false =>
     rw[if_neg (by rw[hon];simp)] at c;have a7:=bF hon;clear hon;cases hmm:(!M || Aaj rx E (ax,ay) ⟨(k:Int),F,O,x,y⟩) with
     | false =>
       rw[if_pos (show (M&&!Aaj rx E (ax,ay) ⟨(k:Int),F,O,x,y⟩)=true by cases M<;>simp_all)]at c;have bu:=bF hmm;clear hmm
       go_wp2_with (first
        | (go_at_call 83;have _t3:=f;refine rR (Ar5 M ⟨(k:Int),F,O,x,y⟩) λw5 l=>?_;rw[bu.out])
        | (go_at_call 82;refine rR (Atx ⟨len,u,rx,E⟩ r G) λw4 f=>?_;rw[a7.out];clear P Q R T U;let⟨P,Q,R,T,U⟩:=(bt.out.keep f).cells4;let⟨b1,b2,b3,b4,b5,b6⟩:=(cy.out.keep f).cells5;let⟨e1,e2,e3,e4,e5,e6⟩:=(cz.out.keep f).cells5))
       go_ret;exact⟨Bm c.out.symm,An (An C f) l⟩
     | true =>
       rw[if_neg (show ¬(M&&!Aaj rx E (ax,ay) ⟨(k:Int),F,O,x,y⟩)=true by cases M<;>simp_all)]at c;have bu:=bF hmm;clear hmm
       go_wp2_with (first
        | (go_at_call 83;have _t3:=f;refine rR (Ar5 M ⟨(k:Int),F,O,x,y⟩) λw5 l=>?_;rw[bu.out])
        | (go_at_call 82;refine rR (Atx ⟨len,u,rx,E⟩ r G) λw4 f=>?_;rw[a7.out];clear P Q R T U;let⟨P,Q,R,T,U⟩:=(bt.out.keep f).cells4;let⟨b1,b2,b3,b4,b5,b6⟩:=(cy.out.keep f).cells5;let⟨e1,e2,e3,e4,e5,e6⟩:=(cz.out.keep f).cells5))
       have ek:=An f l;clear P Q R T U b1 b2 b3 b4 b5 b6 e1 e2 e3 e4 e5 e6 f l _t3;go_loopw [12] (λi wx=>∃j:Nat,j<=D/\i=j/\Hid (J3 S r B j=0)/\Below w3 w3 wx) λi _=>D-(intOf i).toNat
       case atStart=>exact⟨0,aB,rfl,bF rfl,ek⟩
       clear ek;obtain⟨j,hj,rfl,hp,t⟩:=hrel;by_cases fa:j<D
       .obtain⟨bb,ob,rfl,eo,d1,d2,d3,d4,d5⟩:=(b9.keep t).at_ fa;have cf:=F9 S (pt B j);have J:=λ(h:(Br S (pt B j)).1=0)=>Oo h
        have d:=bF (show J3 S r B (j+1)=if (Br S (pt B j)).1≠0 then (Br S (pt B j)).1 else if (Gm (Br S (pt B j)).2 r).2≠0 then (Gm (Br S (pt B j)).2 r).2 else if (Gm (Br S (pt B j)).2 r).1 then 14 else 0 by rw[J3,if_neg (by rw[hp.out];simp)]);let⟨qq,cg⟩:=gN (Br S (pt B j))
        rw[cg]at cf d J;have a8:=bF cg;clear cg;obtain⟨q1,q⟩:=qq;dsimp only at cf d J;let⟨pq,fr⟩:=gN (pt B j)
        rw[fr]at d1 d2 d3 d4 d5 a8;clear fr;obtain⟨cu,c3,cn,x2,y2⟩:=pq;dsimp only at d1 d2 d3 d4 d5;let⟨nq,cc⟩:=gN q.length
        have bx:=bF cc;rw[cc]at cf J;clear cc;have z1:(j:Int)<(D:Int):=aK
        by_cases I:q1=0
        .have db:=bF (J I);subst I;have fc:=Atm (a:=q) (b:=r) (by rw[bx.out];exact db.out) (by rw[da.out];exact bs.out);have cm:(Gm q r).2=0:=by rw[fc]
         rw[if_neg aL,if_neg (by rw[cm];simp)] at d;have V:=bF (λ(A5:Option Addr) (c5:Nat) (w':World) (h1:nq<=c5) (h2:SpS w' A5 nq q) (h3:SpS w' A9 nr r)=>Atw A5 A9 c5 c9 nq nr q r w' aK aK h1 ev h2 h3 db.out bs.out);rw[cm]at V;clear fc cm J;cases m:(Gm q r).1 with
         | true =>
           rw[if_pos m]at d;rw[m]at V;clear m;have n:=H5 d.out aK (D-(j+1));rw[show j+1+(D-(j+1))=D by omega]at n;rw[b9.1,n]at c;clear n
           go_wp2_with (first
            | (go_at_call 84;refine rR (V.out _ _ _ X W (G.keep (An t l))) λw6 cb=>?_)
            | (go_at_call 80;refine aF (Ara S ⟨cu,c3,cn,x2,y2⟩ (ca.keep t)) λw5 v5 H l=>?_;rw[a8.out]at H ⊢;obtain⟨A5,c5,rfl,X,W,-,-⟩:=OwS.els H;rw[bx.out]at X W ⊢))
           go_ret;exact⟨Bm c.out.symm,An C (An (An t l) cb)⟩
         | false =>
           rw[if_neg (by rw[m];simp)] at d;rw[m]at V;clear m
           go_wp2_with (first
            | (go_at_call 84;refine rR (V.out _ _ _ X W (G.keep (An t l))) λw6 cb=>?_)
            | (go_at_call 80;refine aF (Ara S ⟨cu,c3,cn,x2,y2⟩ (ca.keep t)) λw5 v5 H l=>?_;rw[a8.out]at H ⊢;obtain⟨A5,c5,rfl,X,W,-,-⟩:=OwS.els H;rw[bx.out]at X W ⊢))
           exact aE ⟨d,An (An t l) cb⟩
        have qo:(q1 != 0)=true:=by simpa using I
        rw[if_pos I]at d;have n:=H5 d.out I (D-(j+1));rw[show j+1+(D-(j+1))=D by omega]at n;rw[b9.1,n]at c;clear n I J
        go_wp2_with (go_at_call 80;refine aF (Ara S ⟨cu,c3,cn,x2,y2⟩ (ca.keep t)) λw5 v5 H l=>?_;rw[a8.out])
        go_ret;exact⟨Bm c.out.symm,An C (An t l)⟩
       obtain rfl:D=j:=aK
       rw[b9.1,hp.out]at c;go_wp2;go_ret;exact⟨Bm c.out.symm,An C t⟩
theorem Atk{f:Option Addr}(a:Bed4)(S:List Shp)(c:List Pt5)(p:Pt5)(l:ShS w e k S)(i:PuS w f m c)(j:m<=1000000:=by omega):Calls prog 49 #[Jw a,.slice e k b,.slice f m g,L7 p] w λn o=>n=.returned (Ha a S c p)/\Below w w o:=by
 by_cases d:Gg a=true
 .rw[show Ha a S c p=3 by unfold Ha;rw[if_pos d]];exact Axn e f b g k m a S c p w d
 by_cases h:(Br S p).1=0
 .rw[show Ha a S c p=so a S c p (shp S p.sh.toNat) (Br S p).2 by unfold Ha;rw[if_neg d,if_neg (by rw[h];simp)]];exact Axl e f b g k m a S c p w j l i (by simpa using d) h
 rw[show Ha a S c p=(Br S p).1 by unfold Ha;rw[if_neg d,if_pos h]];exact Axm e f b g k m a S c p w l (by simpa using d) h
end Go.Proofs.YtboghahlhmnblaaGreat
