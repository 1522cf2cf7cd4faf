/- Lean texts of the claim. -/
import Derived.Test.YtboghahlhmnblaaGreatZv27
import Derived.Test.YtboghahlhmnblaaGreatZv25
import Derived.BigRegion
namespace Go.Proofs.YtboghahlhmnblaaGreat
set_option linter.all false
set_option maxRecDepth 100000
set_option maxHeartbeats 0
open Go.RowKit Go.Proofs.Tryz
variable{a:World}{b:Array Value}{c:TypeId}{e h:Nat}{f i j k:Obj}{g:Value}{A:Option Addr}{u1 u2 u3 u4 u5 u6:Value}{W d:World}
def yo:List EdgeP:=[⟨⟨#[108,111,119]⟩,[(0,0),(10,0)]⟩,⟨⟨#[114,105,103,104,116]⟩,[(10,0),(10,10)]⟩,⟨⟨#[104,105,103,104]⟩,[(10,10),(0,10)]⟩,⟨⟨#[108,101,102,116]⟩,[(0,10),(0,0)]⟩]
theorem Eb(X:World)(o:Obj):(X.alloc o).heap.size=X.heap.size+1:=aL
theorem bk0{d:Obj}:Bf (((((a.alloc (.cells b c)).alloc f).alloc i).alloc j).alloc d).drew a c b:=((((((Bf.new a c b).alloc f).alloc i).alloc j).alloc d).keep blD)
theorem bk1{d:Obj}:Bf (((((a.alloc f).alloc (.cells b c)).alloc i).alloc j).alloc d).drew (a+1) c b:=by
 rw[<-Eb a f];exact(((((Bf.new _ c b).alloc i).alloc j).alloc d).keep blD)
theorem bk2{d:Obj}:Bf (((((a.alloc f).alloc i).alloc (.cells b c)).alloc j).alloc d).drew (a+1+1) c b:=by
 rw[<-Eb a f,<-Eb _ i];exact((((Bf.new _ c b).alloc j).alloc d).keep blD)
theorem bk3{d:Obj}:Bf (((((a.alloc f).alloc i).alloc j).alloc (.cells b c)).alloc d).drew (a+1+1+1) c b:=by
 rw[<-Eb a f,<-Eb _ i,<-Eb _ j];exact(((Bf.new _ c b).alloc d).keep blD)
theorem bk4{d:Obj}:Bf (((((a.alloc f).alloc i).alloc j).alloc d).alloc (.cells b c)).drew (a+1+1+1+1) c b:=by
 rw[<-Eb a f,<-Eb _ i,<-Eb _ j,<-Eb _ d];exact((Bf.new _ c b).keep blD)
theorem Ve(g:∀k,e<=k->k<a.heap.size->d.heap[k]? = a.heap[k]?)(i:e<=h)(f:Bf a h c b):Bf d h c b:=(g h i (D9 f)).trans f
theorem Nr{f b c d:Int}(h:Bf a e 65 #[f,b,c,d]):SpS a (some ⟨e,0,none⟩) 2 [(f,b),(c,d)]:=by
 obtain⟨g,i,j,l,-⟩:=h.cells4;refine⟨rfl,.inr ⟨e,0,rfl,λk m=>?_⟩⟩
 match k,m with
 | 0,_=>exact⟨g,i⟩
 | 1,_=>exact⟨j,l⟩
theorem Akt{c d g:Nat}(f:Bf a e 65 #[.int .i64 0,.int .i64 0,.int .i64 10,.int .i64 0])(i:Bf a h 65 #[.int .i64 10,.int .i64 0,.int .i64 10,.int .i64 10])(j:Bf a c 65 #[.int .i64 10,.int .i64 10,.int .i64 0,.int .i64 10])(l:Bf a d 65 #[.int .i64 0,.int .i64 10,.int .i64 0,.int .i64 0])
 (b:Bf a g 52 #[.string ⟨#[108,111,119]⟩,.slice (some ⟨e,0,none⟩) 2 2,.string ⟨#[114,105,103,104,116]⟩,.slice (some ⟨h,0,none⟩) 2 2,.string ⟨#[104,105,103,104]⟩,.slice (some ⟨c,0,none⟩) 2 2,.string ⟨#[108,101,102,116]⟩,.slice (some ⟨d,0,none⟩) 2 2]):EdS a (some ⟨g,0,none⟩) 4 yo:=by
 refine⟨rfl,.inr ⟨g,0,rfl,λk m=>?_⟩⟩
 match k,m with
 | 0,_=>exact⟨(b.cell 0).trans rfl,_,2,(b.cell 1).trans rfl,aA,by omega,Nr f⟩
 | 1,_=>exact⟨(b.cell 2).trans rfl,_,2,(b.cell 3).trans rfl,aA,by omega,Nr i⟩
 | 2,_=>exact⟨(b.cell 4).trans rfl,_,2,(b.cell 5).trans rfl,aA,by omega,Nr j⟩
 | 3,_=>exact⟨(b.cell 6).trans rfl,_,2,(b.cell 7).trans rfl,aA,by omega,Nr l⟩
theorem kn(w:World):Calls prog 26 #[.int .i64 10,.int .i64 10] w λe i=>∃A,e=.returned (.slice A 4 4)/\(∀a:World,(∀k,w.heap.size<=k->k<i.heap.size->a.heap[k]? = i.heap[k]?)->EdS a A 4 yo)/\Be w i:=by
 go_enter func26,ntmps26;go_upto_region 2 with fail;refine Bq λX d f=>?_
 have b:∀a,Be X a->Cq a w 0 (.int .i64 0)/\Cq a w 1 (.int .i64 0)/\Cq a w 2 (.int .i64 10)/\Cq a w 3 (.int .i64 0)/\Cq a w 4 (.int .i64 10)/\Cq a w 5 (.int .i64 10)/\Cq a w 6 (.int .i64 0)/\Cq a w 7 (.int .i64 10):=λa j=>by
  have h:=f.keep j;exact⟨(h.cell 0).trans rfl,(h.cell 1).trans rfl,(h.cell 2).trans rfl,(h.cell 3).trans rfl,(h.cell 4).trans rfl,(h.cell 5).trans rfl,(h.cell 6).trans rfl,(h.cell 7).trans rfl⟩
 have g:=f;clear f
 go_region_held3 (λa=>Cq a w 0 (.int .i64 0)/\Cq a w 1 (.int .i64 0)/\Cq a w 2 (.int .i64 10)/\Cq a w 3 (.int .i64 0)/\Cq a w 4 (.int .i64 10)/\Cq a w 5 (.int .i64 10)/\Cq a w 6 (.int .i64 0)/\Cq a w 7 (.int .i64 10))
  (first
   | with_reducible exact b _ blD
   | with_reducible exact b _ bl0
   | with_reducible exact b _ (Aw blA)
   | with_reducible exact b _ blA
   | with_reducible exact b _ (Aw (Ao blA))
   | with_reducible exact b _ (Ao blA)
   | with_reducible exact b _ (Aw (Ao (Ao blA)))
   | with_reducible exact b _ (Ao (Ao blA))
   | with_reducible exact b _ (Aw (Ao (Ao (Ao blA))))
   | with_reducible exact b _ (Ao (Ao (Ao blA)))
   | with_reducible exact b _ (Aw (Ao (Ao (Ao (Ao blA)))))
   | with_reducible exact b _ (Ao (Ao (Ao (Ao blA)))))
  ((first|fail))
 all_goals go_wp2
 all_goals go_ret
 all_goals
  refine⟨_,rfl,λa c=>Akt (Ve c ?_ ?_) (Ve c ?_ ?_) (Ve c ?_ ?_) (Ve c ?_ ?_) (Ve c ?_ (bk4)),An d (Aw (Ao (Ao (Ao (Ao blA)))))⟩
  all_goals first
   | with_reducible exact bk0
   | with_reducible exact bk1
   | with_reducible exact bk2
   | with_reducible exact bk3
   | (clear b g;have:=d.size;omega)
def Akf:PieceP:=⟨⟨#[102,114,111,110,116]⟩,yo,1,[],[(0,0),(1,0),(1,0),(0,0)],[0,0,0,0],false⟩
def Lc:StyleP:=⟨⟨#[115,104,105,114,116]⟩,[⟨#[83]⟩,⟨#[77]⟩],[0,2],[Akf],[⟨0,2,true⟩],[],0⟩
theorem zu:SmS Lc:=⟨aM,aM,aM,aM,aM,aM⟩
theorem Zz(hg:e=a.heap.size:=by simp;omega):Bf (a.alloc (.cells b c)) e c b:=by rw[hg];exact Bf.new a c b
theorem Aho(H:Bf a e c b)(d:e≠h:=by omega):Bf (((((((a.setCell ⟨h,0,none⟩ g).setCell ⟨h,1,none⟩ u1).setCell ⟨h,2,none⟩ u2).setCell ⟨h,3,none⟩ u3).setCell ⟨h,4,none⟩ u4).setCell ⟨h,5,none⟩ u5).setCell ⟨h,6,none⟩ u6) e c b:=(Bf.far (Bf.far (Bf.far (Bf.far (Bf.far (Bf.far (Bf.far H (p:=⟨h,0,none⟩) d g) (p:=⟨h,1,none⟩) d u1) (p:=⟨h,2,none⟩) d u2) (p:=⟨h,3,none⟩) d u3) (p:=⟨h,4,none⟩) d u4) (p:=⟨h,5,none⟩) d u5) (p:=⟨h,6,none⟩) d u6)
theorem Aox(c:Below e a W)(b:e<=h):Below e a (((((((W.setCell ⟨h,0,none⟩ g).setCell ⟨h,1,none⟩ u1).setCell ⟨h,2,none⟩ u2).setCell ⟨h,3,none⟩ u3).setCell ⟨h,4,none⟩ u4).setCell ⟨h,5,none⟩ u5).setCell ⟨h,6,none⟩ u6):=cO (cO (cO (cO (cO (cO (cO c b _) b _) b _) b _) b _) b _) b _
theorem Akc(b:h≠e):(((((((a.setCell ⟨e,0,none⟩ g).setCell ⟨e,1,none⟩ u1).setCell ⟨e,2,none⟩ u2).setCell ⟨e,3,none⟩ u3).setCell ⟨e,4,none⟩ u4).setCell ⟨e,5,none⟩ u5).setCell ⟨e,6,none⟩ u6).heap[h]? = a.heap[h]?:=(Dv b).trans ((Dv b).trans ((Dv b).trans ((Dv b).trans ((Dv b).trans ((Dv b).trans (Dv b))))))
def Afi(A:Option Addr)(B:Nat):Array Value:=#[.string ⟨#[115,104,105,114,116]⟩,.slice (some ⟨B+1+1+1,0,none⟩) 2 2,.slice (some ⟨B+1+1+1+1,0,none⟩) 2 2,.slice (some ⟨B+1+1+1+1+1,0,none⟩) 1 1,.slice (some ⟨B+1+1+1+1+1+1,0,none⟩) 1 1,.slice none 0 0,.slice none 0 0]
theorem zr(n:EdS a A 4 yo)(c:Bf a e 65 #[.int .i64 0,.int .i64 0,.int .i64 1,.int .i64 0,.int .i64 1,.int .i64 0,.int .i64 0,.int .i64 0])(d:Bf a (e+1) 3 #[.int .i64 0,.int .i64 0,.int .i64 0,.int .i64 0])
 (i:Bf a (e+1+1+1) 9 #[.string ⟨#[83]⟩,.string ⟨#[77]⟩]) (l:Bf a (e+1+1+1+1) 3 #[.int .i64 0,.int .i64 2])
 (m:Bf a (e+1+1+1+1+1) 50 #[.string ⟨#[102,114,111,110,116]⟩,.slice A 4 4,.int .i64 1,.slice none 0 0,.slice (some ⟨e,0,none⟩) 4 4,.slice (some ⟨e+1,0,none⟩) 4 4,.bool false]) (f:Bf a (e+1+1+1+1+1+1) 54 #[.int .i64 0,.int .i64 2,.bool true]) :
 StV a (Afi A e) Lc:=by
 have h:SpS a (some ⟨e,0,none⟩) 4 [(0,0),(1,0),(1,0),(0,0)]:=by
  refine⟨rfl,.inr ⟨e,0,rfl,λk b=>?_⟩⟩
  match k,b with
  | 0,_=>exact⟨(c.cell 0).trans rfl,(c.cell 1).trans rfl⟩
  | 1,_=>exact⟨(c.cell 2).trans rfl,(c.cell 3).trans rfl⟩
  | 2,_=>exact⟨(c.cell 4).trans rfl,(c.cell 5).trans rfl⟩
  | 3,_=>exact⟨(c.cell 6).trans rfl,(c.cell 7).trans rfl⟩
 have g:InS a (some ⟨e+1,0,none⟩) 4 [0,0,0,0]:=by
  refine⟨rfl,.inr ⟨e+1,0,rfl,λk b=>?_⟩⟩
  match k,b with
  | 0,_=>exact(d.cell 0).trans rfl
  | 1,_=>exact(d.cell 1).trans rfl
  | 2,_=>exact(d.cell 2).trans rfl
  | 3,_=>exact(d.cell 3).trans rfl
 refine⟨_,2,_,2,_,1,_,1,none,0,none,0,rfl,⟨aA,by omega,rfl,.inr ⟨_,0,rfl,λk b=>?_⟩⟩,⟨aA,by omega,rfl,.inr ⟨_,0,rfl,λk b=>?_⟩⟩,⟨aA,by omega,rfl,.inr ⟨_,0,rfl,λk b=>?_⟩⟩,⟨aA,by omega,rfl,.inr ⟨_,0,rfl,λk b=>?_⟩⟩,⟨aA,by omega,rfl,.inl rfl⟩,aA,by omega⟩
 .match k,b with
  | 0,_=>exact⟨(i.cell 0).trans rfl,by decide⟩
  | 1,_=>exact⟨(i.cell 1).trans rfl,by decide⟩
 .match k,b with
  | 0,_=>exact(l.cell 0).trans rfl
  | 1,_=>exact(l.cell 1).trans rfl
 .match k,b with
  | 0,_ =>
    refine⟨_,⟨A,4,none,0,some ⟨e,0,none⟩,4,some ⟨e+1,0,none⟩,4,rfl,⟨aA,by omega,n⟩,⟨aA,by omega,rfl,.inl rfl⟩,⟨aA,by omega,h⟩,aA,by omega,g⟩,λj u o=>?_⟩;rw[show 0+0*7+j=j by omega];exact(m.cell j).trans o
 match k,b with
 | 0,_=>exact⟨(f.cell 0).trans rfl,(f.cell 1).trans rfl,(f.cell 2).trans rfl⟩
theorem zt(w:World):Calls prog 13 #[] w λe s=>∃r,e=.returned (.agg r)/\StV s r Lc/\Be w s:=by
 go_in
 go_upto_region 2 with (go_at_call 26;refine aF (kn _) λo A U h=>?_)
 let⟨B,p⟩:=gN o.heap.size
 refine Cj (λY=>Be o Y/\Bf Y B 65 #[.int .i64 0,.int .i64 0,.int .i64 1,.int .i64 0,.int .i64 1,.int .i64 0,.int .i64 0,.int .i64 0]/\Bf Y (B+1) 3 #[.int .i64 0,.int .i64 0,.int .i64 0,.int .i64 0]/\Bf Y (B+1+1) 50 #[.string ⟨#[102,114,111,110,116]⟩,.slice A 4 4,.int .i64 1,.slice none 0 0,.slice (some ⟨B,0,none⟩) 4 4,.slice (some ⟨B+1,0,none⟩) 4 4,.bool false]/\Y.heap.size=B+1+1+1) (by
  subst p;refine⟨Ao (Ao blA),((Bf.new _ _ _).alloc _).alloc _,(Bf.new2 _ _ _ _).alloc _,?_,aL⟩;rw[<-Eb o (.cells #[.int .i64 0,.int .i64 0,.int .i64 1,.int .i64 0,.int .i64 1,.int .i64 0,.int .i64 0,.int .i64 0] 65)];exact Bf.new2 _ _ _ _) ?_
 rintro Y ⟨i,T,V,j,m⟩;let⟨t,u,x,y,z,C,D⟩:=st7 j;have l:Bf Y w 29 #[.string ⟨#[]⟩,.slice none 0 0,.slice none 0 0,.slice none 0 0,.slice none 0 0,.slice none 0 0,.slice none 0 0]:=((Bf.new w _ _).keep h).keep i;have c:=λa b d f=>(((l.alloc a).alloc b).alloc d).alloc f
 have g:=λa b=>(j.alloc a).alloc b
 have X:=λa b d f=>(st7 (c a b d f)).1
 have L:=λa b d f=>(c a b d f).frozen 0
 have Z:=λa b d f=>(st7 (c a b d f)).2.1
 have M:=λa b d f=>(c a b d f).frozen 1
 have r2:=λa b d f=>(st7 (c a b d f)).2.2.1
 have N:=λa b d f=>(c a b d f).frozen 2
 have r3:=λa b d f=>(st7 (c a b d f)).2.2.2.1
 have O:=λa b d f=>(c a b d f).frozen 3
 have r4:=λa b d f=>(st7 (c a b d f)).2.2.2.2.1
 have P:=λa b d f=>(c a b d f).frozen 4
 have r5:=λa b d f=>(st7 (c a b d f)).2.2.2.2.2.1
 have Q:=λa b d f=>(c a b d f).frozen 5
 have r6:=λa b d f=>(st7 (c a b d f)).2.2.2.2.2.2
 have R:=λa b d f=>(c a b d f).frozen 6
 have K:=λa b=>(st7 (g a b)).2.2.2.2.2.2
 have q:=m;rw[p];go_wp2;let⟨s0,s1,s2,s3,s4,s5,s6⟩:=st7 ((((((((c (.cells #[.string ⟨#[83]⟩,.string ⟨#[77]⟩] 9) (.cells #[.int .i64 0,.int .i64 2] 3) (.cells #[.string ⟨#[102,114,111,110,116]⟩,.slice A 4 4,.int .i64 1,.slice none 0 0,.slice (some ⟨B,0,none⟩) 4 4,.slice (some ⟨B+1,0,none⟩) 4 4,.bool false] 50) (.cells #[.int .i64 0,.int .i64 2,.bool true] 54)).set_ 0 (.string ⟨#[115,104,105,114,116]⟩)).set_ 1 (.slice (some ⟨B+1+1+1,0,none⟩) 2 2)).set_ 2 (.slice (some ⟨B+1+1+1+1,0,none⟩) 2 2)).set_ 3 (.slice (some ⟨B+1+1+1+1+1,0,none⟩) 1 1)).set_ 4 (.slice (some ⟨B+1+1+1+1+1+1,0,none⟩) 1 1)).set_ 5 (.slice none 0 0)).set_ 6 (.slice none 0 0));refine cB (v:=.agg (Afi A B)) (by simp[results,results13,go_sem,s0,s1,s2,s3,s4,s5,s6,Afi]) rfl ?_;have S:w.heap.size<B:=by have:=h.size;rw[Eb]at this;omega
 refine⟨_,rfl,zr (U _ λk W n=>?_) (Aho ((((T.alloc _).alloc _).alloc _).alloc _)) (Aho ((((V.alloc _).alloc _).alloc _).alloc _)) (Aho ((((Zz (hg:=aK)).alloc _).alloc _).alloc _)) (Aho (((Zz).alloc _).alloc _)) (Aho ((Zz).alloc _)) (Aho (Zz)),Aox (Ao (Ao (Ao (Ao (An (An blA h) i))))) aA⟩;rw[Eb]at W;exact(Akc aK).trans ((Ao (Ao (Ao (Ao i)))).block k n)
end Go.Proofs.YtboghahlhmnblaaGreat
